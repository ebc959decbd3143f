/- Walks: how many there are, how great a state is; which states may be, by the document. -/
import Derived.Test.YtlellgnklohclaaC5
namespace Go.Proofs.Ytlellgnklohclaa.L
open Go Go.Proofs
attribute [local irreducible] pv fv pt fz RowF RowO rowP old pure_ elA Rd.int Rd.text Rd.flag Rd.msg Rd.rint Rd.rtext Rd.rflag Rd.rmsg
set_option maxRecDepth 100000
set_option linter.unusedSimpArgs false
set_option linter.unusedVariables false

/-- So many things a state has. -/
def Ob.cnt (o : Ob) : Nat := 1 + o.rows.length + o.msgs.length + o.dead.length
def Sz.cnt (s : Sz) (i : Nat) : Nat := ((s.l.take i).map (fun o => o.x.cnt)).sum
theorem cnt_succ {s : Sz} {i : Nat} {o : Oz} (h : s.l[i]? = some o) : s.cnt (i + 1) = s.cnt i + o.x.cnt := by
  unfold Sz.cnt
  rw [List.take_add_one, h]; simp
--%call poste/postelaw19.Few := few19 _ (by assumption) !! ⟨_, ⟨fb#, rfl, hfb#, rfl⟩, rfl⟩
set_option maxHeartbeats 800000 in
theorem few19 (s : Sz) (hok : s.ok) : Fn Try.prog 54 [.agg s.cells.toArray].toArray (StL s) (fun r post => ∃ b, r = .bool b ∧ (b = true → s.cnt s.l.length ≤ 200) ∧ post = []) := by
  obtain ⟨hn0, hl, hlc, hall⟩ := hok
  refine Fn.enter (N := 44) Try.func54 rfl Try.ntmps54 (by kernel_rfl) rfl (fun ρ L => ?_)
  refine K.seq ?_
  refine K.region ?_
  refine KO.loud rfl (l_box rfl rfl) ?_
  rintro _ _ ⟨b1, rfl, rfl⟩
  refine KO.q rfl (q_assign rfl) ?_
  refine KO.done ?_
  refine K.seq ?_
  refine K.region ?_
  refine KO.q rfl (q_assign rfl) ?_
  refine KO.done ?_
  refine K.seq <| K.seq ?_
  refine K.region ?_
  refine KO.q rfl (q_assign rfl) ?_
  refine KO.done ?_
  refine K.block ?_
  refine K.rounds2 (ι := { x : Nat // x ≤ s.l.length ∧ s.cnt x ≤ 562949953421312 }) (fun x => [(4, .int .i64 x.1), (3, .int .i64 (s.cnt x.1)), (1, .pointer (some ⟨b1, 0, none⟩))]) (fun x => [pv b1 76 s.cells, RowF Kd.oz s.q s.l, NestF s.l] ++ L) (fun x => s.l.length - x.1) ⟨0, Nat.zero_le _, by simp [Sz.cnt]⟩ (by repeat (first | exact Env.sub_nil _ | refine Env.sub_cons rfl ?_)) (fun w h => h.fitD) (fun x ih => ?_)
  obtain ⟨i, hi, hc⟩ := x
  dsimp only at hi hc ⊢
  refine K.seq <| K.seq ?_
  refine K.region ?_
  refine KO.q rfl (q_move rfl) ?_
  refine KO.q rfl (q_field fo_76_1 rfl) ?_
  refine KO.q rfl (q_load1D ck_74 rfl) ?_
  refine KO.q rfl (q_len Try.underlying74 rfl) ?_
  refine KO.q rfl (q_lt rfl rfl) ?_
  refine KO.q rfl (q_move rfl) ?_
  refine KO.dsplit 10 rfl (fun g10 => ?_) (fun g10 => ?_)
  · obtain ⟨o, ho⟩ : ∃ e, s.l[i]? = some e := ⟨_, List.getElem?_eq_getElem (by omega)⟩
    have hmo := List.mem_of_getElem? ho
    obtain ⟨⟨_, _, _, _, _, _, ha, hb, hd⟩, _⟩ := hall o hmo
    have hcs := cnt_succ ho
    unfold Ob.cnt at hcs
    refine KO.q rfl (q_move rfl) ?_
    refine KO.q rfl (q_le rfl rfl) ?_
    refine KO.q rfl (q_pickT rfl rfl) ?_
    refine KO.done ?_
    refine K.dcond (s := 13) rfl (fun g13 => ?_) (fun g13 => ?_)
    · refine K.skip <| K.seq <| K.block ?_
      refine K.drawU (by repeat (first | apply SubL.pers | apply SubL.own (b := b1) | apply SubL.drop | exact SubL.none)) mixed ?_
      refine D.q 0 rfl (by kernel_rfl) (by kernel_rfl) (q_move rfl) (fun _ h => h.subD) ?_
      refine D.q 1 rfl (by kernel_rfl) (by kernel_rfl) (q_add rfl rfl (by first | omega | (simp; omega)) (by first | omega | (simp; omega))) (fun _ h => h.subD) ?_
      refine D.q 2 rfl (by kernel_rfl) (by kernel_rfl) (q_field fo_76_1 rfl) (fun _ h => h.subD) ?_
      refine D.q 3 rfl (by kernel_rfl) (by kernel_rfl) (q_load1D ck_74 rfl) (fun _ h => h.subD) ?_
      refine D.q 4 rfl (by kernel_rfl) (by kernel_rfl) (q_move rfl) (fun _ h => h.subD) ?_
      first | refine D.q 5 rfl (by kernel_rfl) (by kernel_rfl) (q_ix _ se_74 rfl rfl rfl isF (by repeat (first | exact List.Mem.head _ | apply List.Mem.tail)) rfl (by first | assumption | omega | exact (List.getElem?_eq_some_iff.1 (by assumption)).1 | (simp; omega))) (fun _ h => h.subD) ?_ | refine D.q 5 rfl (by kernel_rfl) (by kernel_rfl) (q_ix _ se_74 rfl rfl rfl isO (by repeat (first | exact List.Mem.head _ | apply List.Mem.tail)) rfl (by first | assumption | omega | exact (List.getElem?_eq_some_iff.1 (by assumption)).1 | (simp; omega))) (fun _ h => h.subD) ?_
      refine D.q 6 rfl (by kernel_rfl) (by kernel_rfl) (q_fieldE fo_108_3 rfl) (fun _ h => h.subD) ?_
      first | refine D.q 7 rfl (by kernel_rfl) (by kernel_rfl) (q_ldE ck_106 rfl isF (by repeat (first | exact List.Mem.head _ | apply List.Mem.tail)) (by first | assumption | exact List.getElem?_eq_getElem (by first | assumption | omega | (simp; omega))) rfl) (fun _ h => h.subD) ?_ | refine D.q 7 rfl (by kernel_rfl) (by kernel_rfl) (q_ldE ck_106 rfl isO (by repeat (first | exact List.Mem.head _ | apply List.Mem.tail)) (by first | assumption | exact List.getElem?_eq_getElem (by first | assumption | omega | (simp; omega))) rfl) (fun _ h => h.subD) ?_
      refine D.q 8 rfl (by kernel_rfl) (by kernel_rfl) (q_len Try.underlying106 rfl) (fun _ h => h.subD) ?_
      refine D.q 9 rfl (by kernel_rfl) (by kernel_rfl) (q_add rfl rfl (by first | omega | (simp; omega)) (by first | omega | (simp; omega))) (fun _ h => h.subD) ?_
      refine D.q 10 rfl (by kernel_rfl) (by kernel_rfl) (q_field fo_76_1 rfl) (fun _ h => h.subD) ?_
      refine D.q 11 rfl (by kernel_rfl) (by kernel_rfl) (q_load1D ck_74 rfl) (fun _ h => h.subD) ?_
      refine D.q 12 rfl (by kernel_rfl) (by kernel_rfl) (q_move rfl) (fun _ h => h.subD) ?_
      first | refine D.q 13 rfl (by kernel_rfl) (by kernel_rfl) (q_ix _ se_74 rfl rfl rfl isF (by repeat (first | exact List.Mem.head _ | apply List.Mem.tail)) rfl (by first | assumption | omega | exact (List.getElem?_eq_some_iff.1 (by assumption)).1 | (simp; omega))) (fun _ h => h.subD) ?_ | refine D.q 13 rfl (by kernel_rfl) (by kernel_rfl) (q_ix _ se_74 rfl rfl rfl isO (by repeat (first | exact List.Mem.head _ | apply List.Mem.tail)) rfl (by first | assumption | omega | exact (List.getElem?_eq_some_iff.1 (by assumption)).1 | (simp; omega))) (fun _ h => h.subD) ?_
      refine D.q 14 rfl (by kernel_rfl) (by kernel_rfl) (q_fieldE fo_108_4 rfl) (fun _ h => h.subD) ?_
      first | refine D.q 15 rfl (by kernel_rfl) (by kernel_rfl) (q_ldE ck_26 rfl isF (by repeat (first | exact List.Mem.head _ | apply List.Mem.tail)) (by first | assumption | exact List.getElem?_eq_getElem (by first | assumption | omega | (simp; omega))) rfl) (fun _ h => h.subD) ?_ | refine D.q 15 rfl (by kernel_rfl) (by kernel_rfl) (q_ldE ck_26 rfl isO (by repeat (first | exact List.Mem.head _ | apply List.Mem.tail)) (by first | assumption | exact List.getElem?_eq_getElem (by first | assumption | omega | (simp; omega))) rfl) (fun _ h => h.subD) ?_
      refine D.q 16 rfl (by kernel_rfl) (by kernel_rfl) (q_len Try.underlying26 rfl) (fun _ h => h.subD) ?_
      refine D.q 17 rfl (by kernel_rfl) (by kernel_rfl) (q_add rfl rfl (by first | omega | (simp; omega)) (by first | omega | (simp; omega))) (fun _ h => h.subD) ?_
      refine D.q 18 rfl (by kernel_rfl) (by kernel_rfl) (q_field fo_76_1 rfl) (fun _ h => h.subD) ?_
      refine D.q 19 rfl (by kernel_rfl) (by kernel_rfl) (q_load1D ck_74 rfl) (fun _ h => h.subD) ?_
      refine D.q 20 rfl (by kernel_rfl) (by kernel_rfl) (q_move rfl) (fun _ h => h.subD) ?_
      first | refine D.q 21 rfl (by kernel_rfl) (by kernel_rfl) (q_ix _ se_74 rfl rfl rfl isF (by repeat (first | exact List.Mem.head _ | apply List.Mem.tail)) rfl (by first | assumption | omega | exact (List.getElem?_eq_some_iff.1 (by assumption)).1 | (simp; omega))) (fun _ h => h.subD) ?_ | refine D.q 21 rfl (by kernel_rfl) (by kernel_rfl) (q_ix _ se_74 rfl rfl rfl isO (by repeat (first | exact List.Mem.head _ | apply List.Mem.tail)) rfl (by first | assumption | omega | exact (List.getElem?_eq_some_iff.1 (by assumption)).1 | (simp; omega))) (fun _ h => h.subD) ?_
      refine D.q 22 rfl (by kernel_rfl) (by kernel_rfl) (q_fieldE fo_108_5 rfl) (fun _ h => h.subD) ?_
      first | refine D.q 23 rfl (by kernel_rfl) (by kernel_rfl) (q_ldE ck_26 rfl isF (by repeat (first | exact List.Mem.head _ | apply List.Mem.tail)) (by first | assumption | exact List.getElem?_eq_getElem (by first | assumption | omega | (simp; omega))) rfl) (fun _ h => h.subD) ?_ | refine D.q 23 rfl (by kernel_rfl) (by kernel_rfl) (q_ldE ck_26 rfl isO (by repeat (first | exact List.Mem.head _ | apply List.Mem.tail)) (by first | assumption | exact List.getElem?_eq_getElem (by first | assumption | omega | (simp; omega))) rfl) (fun _ h => h.subD) ?_
      refine D.q 24 rfl (by kernel_rfl) (by kernel_rfl) (q_len Try.underlying26 rfl) (fun _ h => h.subD) ?_
      refine D.q 25 rfl (by kernel_rfl) (by kernel_rfl) (q_add rfl rfl (by first | omega | (simp; omega)) (by first | omega | (simp; omega))) (fun _ h => h.subD) ?_
      refine D.q 26 rfl (by kernel_rfl) (by kernel_rfl) (q_assign rfl) (fun _ h => h.subD) ?_
      refine D.done (by kernel_rfl) ?_
      refine K.inBlock ?_
      refine K.region ?_
      refine KO.q rfl (q_move rfl) ?_
      refine KO.q rfl (q_add rfl rfl (by first | omega | (simp; omega)) (by first | omega | (simp; omega))) ?_
      refine KO.q rfl (q_assign rfl) ?_
      refine KO.done ?_
      refine K.weak (Env.sub_cons rfl (Env.sub_cons ?_ (Env.sub_cons rfl (Env.sub_nil _)))) (fun w h => h.fitD) (ih ⟨i + 1, by omega, by omega⟩ (by show s.l.length - (i + 1) < s.l.length - i; omega))
      show _ = some (Value.int .i64 ((s.cnt (i + 1) : Nat) : Int))
      refine congrArg (fun z => some (Value.int .i64 z)) ?_
      omega
    · refine K.exit rfl ?_
      refine K.seq ?_
      refine K.region ?_
      refine KO.q rfl (q_move rfl) ?_
      refine KO.q rfl (q_le rfl rfl) ?_
      refine KO.q rfl (q_assign rfl) ?_
      refine KO.done ?_
      refine K.ret (fn := Try.f54) Try.func54 (fun a w hk hs => res1 Try.results54 hk rfl) (fun w hs => ?_)
      refine ⟨_, [], rfl, ⟨_, rfl, fun hb => ?_, rfl⟩, hs.fitD⟩
      have h200 := of_decide_eq_true hb
      first
        | (obtain rfl : i = s.l.length := by omega
           omega)
        | omega
  · refine KO.skip rfl ?_
    refine KO.skip rfl ?_
    refine KO.q rfl (q_pickF rfl rfl) ?_
    refine KO.done ?_
    refine K.no rfl ?_
    refine K.exit rfl ?_
    refine K.seq ?_
    refine K.region ?_
    refine KO.q rfl (q_move rfl) ?_
    refine KO.q rfl (q_le rfl rfl) ?_
    refine KO.q rfl (q_assign rfl) ?_
    refine KO.done ?_
    refine K.ret (fn := Try.f54) Try.func54 (fun a w hk hs => res1 Try.results54 hk rfl) (fun w hs => ?_)
    refine ⟨_, [], rfl, ⟨_, rfl, fun hb => ?_, rfl⟩, hs.fitD⟩
    have h200 := of_decide_eq_true hb
    first
      | (obtain rfl : i = s.l.length := by omega
         omega)
      | omega
/-- So great is a state. -/
def Rw.size (r : Rw) : Nat := 20 + r.key.size + r.value.size
def Msg.wt (m : Msg) : Nat := 60 + m.corr.size + m.body.size
def Ob.size (o : Ob) : Nat := 50 + o.name.size + (o.rows.map Rw.size).sum + (o.msgs.map Msg.wt).sum + (o.dead.map Msg.wt).sum
def Stt.size (s : Stt) : Nat := 16 + (s.objs.map Ob.size).sum
theorem sum_succ {α : Type} {f : α → Nat} {l : List α} {i : Nat} {x : α} (h : l[i]? = some x) : ((l.take (i + 1)).map f).sum = ((l.take i).map f).sum + f x := by
  rw [List.take_add_one, h]; simp
theorem sum_le_mul {α : Type} {f : α → Nat} {c : Nat} : ∀ (l : List α), (∀ x ∈ l, f x ≤ c) → (l.map f).sum ≤ l.length * c
  | [], _ => by simp
  | x :: l, h => by
    have h1 := h x List.mem_cons_self
    have h2 := sum_le_mul l (fun y hy => h y (List.mem_cons_of_mem _ hy))
    simp only [List.map_cons, List.sum_cons, List.length_cons, Nat.succ_mul]
    omega
theorem sum_take_le {α : Type} {f : α → Nat} (l : List α) (i : Nat) : ((l.take i).map f).sum ≤ (l.map f).sum := by
  conv => rhs; rw [← List.take_append_drop i l]
  rw [List.map_append, List.sum_append]; omega
theorem ob_size_le {o : Oz} (h : o.ok) : o.x.size ≤ o.x.cnt * 281474976710656 := by
  obtain ⟨⟨h1, _, _, h4, h5, h6, _⟩, _⟩ := h
  have a := sum_le_mul (f := Rw.size) (c := 281474976710656) o.x.rows (fun r hr => by have := h4 r hr; unfold Rw.sm at this; unfold Rw.size; omega)
  have b := sum_le_mul (f := Msg.wt) (c := 281474976710656) o.x.msgs (fun r hr => by have := h5 r hr; unfold Msg.sm at this; unfold Msg.wt; omega)
  have c := sum_le_mul (f := Msg.wt) (c := 281474976710656) o.x.dead (fun r hr => by have := h6 r hr; unfold Msg.sm at this; unfold Msg.wt; omega)
  unfold Ob.size Ob.cnt
  omega
theorem sz_size_le {s : Sz} (h : s.ok) : ∀ i, ((s.l.take i).map (fun o => o.x.size)).sum ≤ s.cnt i * 281474976710656 := by
  intro i
  have key : ∀ l : List Oz, (∀ o ∈ l, o.ok) → (l.map (fun o => o.x.size)).sum ≤ (l.map (fun o => o.x.cnt)).sum * 281474976710656 := fun l => by
    induction l with
    | nil => intro _; simp
    | cons o l ih =>
      intro hl
      have h1 := ob_size_le (hl o List.mem_cons_self)
      have h2 := ih (fun x hx => hl x (List.mem_cons_of_mem _ hx))
      simp only [List.map_cons, List.sum_cons, Nat.add_mul]
      omega
  exact key _ (fun o ho => h.2.2.2 o (List.mem_of_mem_take ho))
theorem cnt_mono (s : Sz) (i : Nat) : s.cnt i ≤ s.cnt s.l.length := by
  unfold Sz.cnt
  rw [List.take_length]
  exact sum_take_le _ _
--%call poste/posteref14.Size := ref_Size _ (by assumption) (by assumption)
set_option maxHeartbeats 3200000 in
theorem ref_Size (s : Sz) (hok : s.ok) (hcnt : s.cnt s.l.length ≤ 200) : Fn Try.prog 61 [.agg s.cells.toArray].toArray (StL s) (fun r post => r = .int .i64 (s.st.size : Nat) ∧ post = []) := by
  have hsz := sz_size_le hok
  have hcm := cnt_mono s
  obtain ⟨hn0, hl, hlc, hall⟩ := hok
  refine Fn.enter (N := 103) Try.func61 rfl Try.ntmps61 (by kernel_rfl) rfl (fun ρ L => ?_)
  refine K.seq ?_
  refine K.region ?_
  refine KO.loud rfl (l_box rfl rfl) ?_
  rintro _ _ ⟨b1, rfl, rfl⟩
  refine KO.q rfl (q_assign rfl) ?_
  refine KO.done ?_
  refine K.seq ?_
  refine K.region ?_
  refine KO.q rfl (q_assign rfl) ?_
  refine KO.done ?_
  refine K.seq <| K.seq ?_
  refine K.region ?_
  refine KO.q rfl (q_assign rfl) ?_
  refine KO.done ?_
  refine K.block ?_
  refine K.rounds2 (ι := { x : Nat // x ≤ s.l.length }) (fun x => [(4, .int .i64 x.1), (3, .int .i64 ((16 + ((s.l.take x.1).map (fun o => o.x.size)).sum : Nat) : Int)), (1, .pointer (some ⟨b1, 0, none⟩))]) (fun x => [pv b1 76 s.cells, RowF Kd.oz s.q s.l, NestF s.l] ++ L) (fun x => s.l.length - x.1) ⟨0, Nat.zero_le _⟩ (by repeat (first | exact Env.sub_nil _ | refine Env.sub_cons rfl ?_)) (fun w h => h.fitD) (fun x ih => ?_)
  obtain ⟨i, hi⟩ := x
  dsimp only at hi ⊢
  refine K.seq <| K.seq ?_
  refine K.region ?_
  refine KO.q rfl (q_move rfl) ?_
  refine KO.q rfl (q_field fo_76_1 rfl) ?_
  refine KO.q rfl (q_load1D ck_74 rfl) ?_
  refine KO.q rfl (q_len Try.underlying74 rfl) ?_
  refine KO.q rfl (q_lt rfl rfl) ?_
  refine KO.done ?_
  refine K.dcond (s := 13) rfl (fun g13 => ?_) (fun g13 => ?_)
  · obtain ⟨o, ho⟩ : ∃ e, s.l[i]? = some e := ⟨_, List.getElem?_eq_getElem (by omega)⟩
    have hmo := List.mem_of_getElem? ho
    have hoo := hall o hmo
    have hosz := ob_size_le hoo
    have h1 := hsz i
    have h2 := hcm i
    have h3 := hcm (i + 1)
    have h4 := cnt_succ ho
    have h5 := sum_succ (f := fun o : Oz => o.x.size) ho
    have hcap : 16 + ((s.l.take i).map (fun o => o.x.size)).sum + o.x.size ≤ 100000000000000000 := by
      have := hsz (i + 1)
      omega
    generalize hP : 16 + ((s.l.take i).map (fun o => o.x.size)).sum = P at hcap ⊢
    have hos : o.x.size = 50 + o.x.name.size + (o.x.rows.map Rw.size).sum + (o.x.msgs.map Msg.wt).sum + (o.x.dead.map Msg.wt).sum := rfl
    refine K.st (fun w h => nestF_at (l := s.l) (by repeat (first | exact List.Mem.head _ | apply List.Mem.tail)) hmo h) ?_
    obtain ⟨⟨_, _, _, _, _, _, hr1, hr2, hr3⟩, _⟩ := hoo
    refine K.skip <| K.seq <| K.block <| K.seq ?_
    refine K.region ?_
    refine KO.q rfl (q_field fo_76_1 rfl) ?_
    refine KO.q rfl (q_load1D ck_74 rfl) ?_
    refine KO.q rfl (q_move rfl) ?_
    first | refine KO.q rfl (q_ix _ se_74 rfl rfl rfl isF (by repeat (first | exact List.Mem.head _ | apply List.Mem.tail)) rfl (by first | assumption | omega | exact (List.getElem?_eq_some_iff.1 (by assumption)).1 | (simp; omega))) ?_ | refine KO.q rfl (q_ix _ se_74 rfl rfl rfl isO (by repeat (first | exact List.Mem.head _ | apply List.Mem.tail)) rfl (by first | assumption | omega | exact (List.getElem?_eq_some_iff.1 (by assumption)).1 | (simp; omega))) ?_
    first | refine KO.q rfl (q_ldEN ck_108 rfl isF (by repeat (first | exact List.Mem.head _ | apply List.Mem.tail)) (by first | assumption | exact List.getElem?_eq_getElem (by first | assumption | omega | (simp; omega)))) ?_ | refine KO.q rfl (q_ldEN ck_108 rfl isO (by repeat (first | exact List.Mem.head _ | apply List.Mem.tail)) (by first | assumption | exact List.getElem?_eq_getElem (by first | assumption | omega | (simp; omega)))) ?_
    refine KO.loud rfl (l_alloc zo_108) ?_
    rintro _ _ ⟨b5, rfl, rfl⟩
    refine KO.loudN rfl (l_storeAll ck_108 rfl rfl ⟨rfl, rfl⟩ (oz_one _) (by repeat (first | exact Pick.here | apply Pick.there))) ?_
    rintro _ _ ⟨rfl, rfl⟩
    refine KO.done ?_
    refine K.seq ?_
    refine K.region ?_
    refine KO.q rfl (q_move rfl) ?_
    refine KO.q rfl (q_add rfl rfl (by first | omega | (simp; omega)) (by first | omega | (simp; omega))) ?_
    refine KO.q rfl (q_field fo_108_0 rfl) ?_
    refine KO.q rfl (q_load1D ck_9 rfl) ?_
    refine KO.q rfl (q_lenS Try.underlying9 rfl) ?_
    refine KO.q rfl (q_add rfl rfl (by first | omega | (simp; omega)) (by first | omega | (simp; omega))) ?_
    refine KO.q rfl (q_assign rfl) ?_
    refine KO.done ?_
    refine K.seq <| K.seq ?_
    refine K.region ?_
    refine KO.q rfl (q_assign rfl) ?_
    refine KO.done ?_
    refine K.block ?_
    refine K.rounds2 (ι := { x : Nat // x ≤ o.x.rows.length }) (fun x => [(6, .int .i64 x.1), (5, .pointer (some ⟨b5, 0, none⟩)), (4, .int .i64 i), (3, .int .i64 ((P + 50 + o.x.name.size + ((o.x.rows.take x.1).map Rw.size).sum : Nat) : Int)), (1, .pointer (some ⟨b1, 0, none⟩))]) (fun x => pv b5 108 o.cells :: ObL o ++ [pv b1 76 s.cells, RowF Kd.oz s.q s.l, NestF s.l] ++ L) (fun x => o.x.rows.length - x.1) ⟨0, Nat.zero_le _⟩ (Env.sub_cons rfl (Env.sub_cons rfl (Env.sub_cons rfl (Env.sub_cons (by refine congrArg (fun z => some (Value.int .i64 z)) ?_; simp) (Env.sub_cons rfl (Env.sub_nil _)))))) (fun w h => h.fitD) (fun x ih2 => ?_)
    obtain ⟨k, hk⟩ := x
    have hle := sum_take_le (f := Rw.size) o.x.rows k
    dsimp only at hk ⊢
    refine K.seq <| K.seq ?_
    refine K.region ?_
    refine KO.q rfl (q_move rfl) ?_
    refine KO.q rfl (q_field fo_108_3 rfl) ?_
    refine KO.q rfl (q_load1D ck_106 rfl) ?_
    refine KO.q rfl (q_len Try.underlying106 rfl) ?_
    refine KO.q rfl (q_lt rfl rfl) ?_
    refine KO.done ?_
    refine K.dcond (s := 31) rfl (fun g31 => ?_) (fun g31 => ?_)
    · obtain ⟨r, hr⟩ : ∃ e, o.x.rows[k]? = some e := ⟨_, List.getElem?_eq_getElem (by omega)⟩
      have hss := sum_succ (f := Rw.size) hr
      have hle2 := sum_take_le (f := Rw.size) o.x.rows (k + 1)
      rw [show Rw.size r = 20 + r.key.size + r.value.size from rfl] at hss
      refine K.skip <| K.seq <| K.block ?_
      refine K.drawU (by repeat (first | apply SubL.pers | apply SubL.own (b := b5) | apply SubL.drop | exact SubL.none)) mixed ?_
      refine D.q 0 rfl (by kernel_rfl) (by kernel_rfl) (q_move rfl) (fun _ h => h.subD) ?_
      refine D.q 1 rfl (by kernel_rfl) (by kernel_rfl) (q_add rfl rfl (by first | omega | (simp; omega)) (by first | omega | (simp; omega))) (fun _ h => h.subD) ?_
      refine D.q 2 rfl (by kernel_rfl) (by kernel_rfl) (q_field fo_108_3 rfl) (fun _ h => h.subD) ?_
      refine D.q 3 rfl (by kernel_rfl) (by kernel_rfl) (q_load1D ck_106 rfl) (fun _ h => h.subD) ?_
      refine D.q 4 rfl (by kernel_rfl) (by kernel_rfl) (q_move rfl) (fun _ h => h.subD) ?_
      first | refine D.q 5 rfl (by kernel_rfl) (by kernel_rfl) (q_ix _ se_106 rfl rfl rfl isF (by repeat (first | exact List.Mem.head _ | apply List.Mem.tail)) rfl (by first | assumption | omega | exact (List.getElem?_eq_some_iff.1 (by assumption)).1 | (simp; omega))) (fun _ h => h.subD) ?_ | refine D.q 5 rfl (by kernel_rfl) (by kernel_rfl) (q_ix _ se_106 rfl rfl rfl isO (by repeat (first | exact List.Mem.head _ | apply List.Mem.tail)) rfl (by first | assumption | omega | exact (List.getElem?_eq_some_iff.1 (by assumption)).1 | (simp; omega))) (fun _ h => h.subD) ?_
      refine D.q 6 rfl (by kernel_rfl) (by kernel_rfl) (q_fieldE fo_103_0 rfl) (fun _ h => h.subD) ?_
      first | refine D.q 7 rfl (by kernel_rfl) (by kernel_rfl) (q_ldE ck_9 rfl isF (by repeat (first | exact List.Mem.head _ | apply List.Mem.tail)) (by first | assumption | exact List.getElem?_eq_getElem (by first | assumption | omega | (simp; omega))) rfl) (fun _ h => h.subD) ?_ | refine D.q 7 rfl (by kernel_rfl) (by kernel_rfl) (q_ldE ck_9 rfl isO (by repeat (first | exact List.Mem.head _ | apply List.Mem.tail)) (by first | assumption | exact List.getElem?_eq_getElem (by first | assumption | omega | (simp; omega))) rfl) (fun _ h => h.subD) ?_
      refine D.q 8 rfl (by kernel_rfl) (by kernel_rfl) (q_lenS Try.underlying9 rfl) (fun _ h => h.subD) ?_
      refine D.q 9 rfl (by kernel_rfl) (by kernel_rfl) (q_add rfl rfl (by first | omega | (simp; omega)) (by first | omega | (simp; omega))) (fun _ h => h.subD) ?_
      refine D.q 10 rfl (by kernel_rfl) (by kernel_rfl) (q_field fo_108_3 rfl) (fun _ h => h.subD) ?_
      refine D.q 11 rfl (by kernel_rfl) (by kernel_rfl) (q_load1D ck_106 rfl) (fun _ h => h.subD) ?_
      refine D.q 12 rfl (by kernel_rfl) (by kernel_rfl) (q_move rfl) (fun _ h => h.subD) ?_
      first | refine D.q 13 rfl (by kernel_rfl) (by kernel_rfl) (q_ix _ se_106 rfl rfl rfl isF (by repeat (first | exact List.Mem.head _ | apply List.Mem.tail)) rfl (by first | assumption | omega | exact (List.getElem?_eq_some_iff.1 (by assumption)).1 | (simp; omega))) (fun _ h => h.subD) ?_ | refine D.q 13 rfl (by kernel_rfl) (by kernel_rfl) (q_ix _ se_106 rfl rfl rfl isO (by repeat (first | exact List.Mem.head _ | apply List.Mem.tail)) rfl (by first | assumption | omega | exact (List.getElem?_eq_some_iff.1 (by assumption)).1 | (simp; omega))) (fun _ h => h.subD) ?_
      refine D.q 14 rfl (by kernel_rfl) (by kernel_rfl) (q_fieldE fo_103_1 rfl) (fun _ h => h.subD) ?_
      first | refine D.q 15 rfl (by kernel_rfl) (by kernel_rfl) (q_ldE ck_9 rfl isF (by repeat (first | exact List.Mem.head _ | apply List.Mem.tail)) (by first | assumption | exact List.getElem?_eq_getElem (by first | assumption | omega | (simp; omega))) rfl) (fun _ h => h.subD) ?_ | refine D.q 15 rfl (by kernel_rfl) (by kernel_rfl) (q_ldE ck_9 rfl isO (by repeat (first | exact List.Mem.head _ | apply List.Mem.tail)) (by first | assumption | exact List.getElem?_eq_getElem (by first | assumption | omega | (simp; omega))) rfl) (fun _ h => h.subD) ?_
      refine D.q 16 rfl (by kernel_rfl) (by kernel_rfl) (q_lenS Try.underlying9 rfl) (fun _ h => h.subD) ?_
      refine D.q 17 rfl (by kernel_rfl) (by kernel_rfl) (q_add rfl rfl (by first | omega | (simp; omega)) (by first | omega | (simp; omega))) (fun _ h => h.subD) ?_
      refine D.q 18 rfl (by kernel_rfl) (by kernel_rfl) (q_assign rfl) (fun _ h => h.subD) ?_
      refine D.done (by kernel_rfl) ?_
      refine K.inBlock ?_
      refine K.region ?_
      refine KO.q rfl (q_move rfl) ?_
      refine KO.q rfl (q_add rfl rfl (by first | omega | (simp; omega)) (by first | omega | (simp; omega))) ?_
      refine KO.q rfl (q_assign rfl) ?_
      refine KO.done ?_
      refine K.weak (Env.sub_cons rfl (Env.sub_cons rfl (Env.sub_cons rfl (Env.sub_cons ?_ (Env.sub_cons rfl (Env.sub_nil _)))))) (fun w h => h.fitD) (ih2 ⟨k + 1, by omega⟩ (by show o.x.rows.length - (k + 1) < o.x.rows.length - k; omega))
      show _ = some (Value.int .i64 ((P + 50 + o.x.name.size + ((o.x.rows.take (k + 1)).map Rw.size).sum : Nat) : Int))
      refine congrArg (fun z => some (Value.int .i64 z)) ?_
      omega
    · obtain rfl : k = o.x.rows.length := by omega
      rw [List.take_length]
      refine K.exit rfl ?_
      refine K.seq <| K.seq ?_
      refine K.region ?_
      refine KO.q rfl (q_assign rfl) ?_
      refine KO.done ?_
      refine K.block ?_
      refine K.rounds2 (ι := { x : Nat // x ≤ o.x.msgs.length }) (fun x => [(7, .int .i64 x.1), (5, .pointer (some ⟨b5, 0, none⟩)), (4, .int .i64 i), (3, .int .i64 ((P + 50 + o.x.name.size + (o.x.rows.map Rw.size).sum + ((o.x.msgs.take x.1).map Msg.wt).sum : Nat) : Int)), (1, .pointer (some ⟨b1, 0, none⟩))]) (fun x => pv b5 108 o.cells :: ObL o ++ [pv b1 76 s.cells, RowF Kd.oz s.q s.l, NestF s.l] ++ L) (fun x => o.x.msgs.length - x.1) ⟨0, Nat.zero_le _⟩ (Env.sub_cons rfl (Env.sub_cons rfl (Env.sub_cons rfl (Env.sub_cons (by refine congrArg (fun z => some (Value.int .i64 z)) ?_; simp) (Env.sub_cons rfl (Env.sub_nil _)))))) (fun w h => h.fitD) (fun x ih3 => ?_)
      obtain ⟨k2, hk2⟩ := x
      have hle3 := sum_take_le (f := Msg.wt) o.x.msgs k2
      dsimp only at hk2 ⊢
      refine K.seq <| K.seq ?_
      refine K.region ?_
      refine KO.q rfl (q_move rfl) ?_
      refine KO.q rfl (q_field fo_108_4 rfl) ?_
      refine KO.q rfl (q_load1D ck_26 rfl) ?_
      refine KO.q rfl (q_len Try.underlying26 rfl) ?_
      refine KO.q rfl (q_lt rfl rfl) ?_
      refine KO.done ?_
      refine K.dcond (s := 56) rfl (fun g56 => ?_) (fun g56 => ?_)
      · obtain ⟨m, hm⟩ : ∃ e, o.x.msgs[k2]? = some e := ⟨_, List.getElem?_eq_getElem (by omega)⟩
        have hss := sum_succ (f := Msg.wt) hm
        have hle2 := sum_take_le (f := Msg.wt) o.x.msgs (k2 + 1)
        rw [show Msg.wt m = 60 + m.corr.size + m.body.size from rfl] at hss
        refine K.skip <| K.seq <| K.block ?_
        refine K.drawU (by repeat (first | apply SubL.pers | apply SubL.own (b := b5) | apply SubL.drop | exact SubL.none)) mixed ?_
        refine D.q 0 rfl (by kernel_rfl) (by kernel_rfl) (q_move rfl) (fun _ h => h.subD) ?_
        refine D.q 1 rfl (by kernel_rfl) (by kernel_rfl) (q_add rfl rfl (by first | omega | (simp; omega)) (by first | omega | (simp; omega))) (fun _ h => h.subD) ?_
        refine D.q 2 rfl (by kernel_rfl) (by kernel_rfl) (q_field fo_108_4 rfl) (fun _ h => h.subD) ?_
        refine D.q 3 rfl (by kernel_rfl) (by kernel_rfl) (q_load1D ck_26 rfl) (fun _ h => h.subD) ?_
        refine D.q 4 rfl (by kernel_rfl) (by kernel_rfl) (q_move rfl) (fun _ h => h.subD) ?_
        first | refine D.q 5 rfl (by kernel_rfl) (by kernel_rfl) (q_ix _ se_26 rfl rfl rfl isF (by repeat (first | exact List.Mem.head _ | apply List.Mem.tail)) rfl (by first | assumption | omega | exact (List.getElem?_eq_some_iff.1 (by assumption)).1 | (simp; omega))) (fun _ h => h.subD) ?_ | refine D.q 5 rfl (by kernel_rfl) (by kernel_rfl) (q_ix _ se_26 rfl rfl rfl isO (by repeat (first | exact List.Mem.head _ | apply List.Mem.tail)) rfl (by first | assumption | omega | exact (List.getElem?_eq_some_iff.1 (by assumption)).1 | (simp; omega))) (fun _ h => h.subD) ?_
        refine D.q 6 rfl (by kernel_rfl) (by kernel_rfl) (q_fieldE fo_24_4 rfl) (fun _ h => h.subD) ?_
        first | refine D.q 7 rfl (by kernel_rfl) (by kernel_rfl) (q_ldE ck_9 rfl isF (by repeat (first | exact List.Mem.head _ | apply List.Mem.tail)) (by first | assumption | exact List.getElem?_eq_getElem (by first | assumption | omega | (simp; omega))) rfl) (fun _ h => h.subD) ?_ | refine D.q 7 rfl (by kernel_rfl) (by kernel_rfl) (q_ldE ck_9 rfl isO (by repeat (first | exact List.Mem.head _ | apply List.Mem.tail)) (by first | assumption | exact List.getElem?_eq_getElem (by first | assumption | omega | (simp; omega))) rfl) (fun _ h => h.subD) ?_
        refine D.q 8 rfl (by kernel_rfl) (by kernel_rfl) (q_lenS Try.underlying9 rfl) (fun _ h => h.subD) ?_
        refine D.q 9 rfl (by kernel_rfl) (by kernel_rfl) (q_add rfl rfl (by first | omega | (simp; omega)) (by first | omega | (simp; omega))) (fun _ h => h.subD) ?_
        refine D.q 10 rfl (by kernel_rfl) (by kernel_rfl) (q_field fo_108_4 rfl) (fun _ h => h.subD) ?_
        refine D.q 11 rfl (by kernel_rfl) (by kernel_rfl) (q_load1D ck_26 rfl) (fun _ h => h.subD) ?_
        refine D.q 12 rfl (by kernel_rfl) (by kernel_rfl) (q_move rfl) (fun _ h => h.subD) ?_
        first | refine D.q 13 rfl (by kernel_rfl) (by kernel_rfl) (q_ix _ se_26 rfl rfl rfl isF (by repeat (first | exact List.Mem.head _ | apply List.Mem.tail)) rfl (by first | assumption | omega | exact (List.getElem?_eq_some_iff.1 (by assumption)).1 | (simp; omega))) (fun _ h => h.subD) ?_ | refine D.q 13 rfl (by kernel_rfl) (by kernel_rfl) (q_ix _ se_26 rfl rfl rfl isO (by repeat (first | exact List.Mem.head _ | apply List.Mem.tail)) rfl (by first | assumption | omega | exact (List.getElem?_eq_some_iff.1 (by assumption)).1 | (simp; omega))) (fun _ h => h.subD) ?_
        refine D.q 14 rfl (by kernel_rfl) (by kernel_rfl) (q_fieldE fo_24_5 rfl) (fun _ h => h.subD) ?_
        first | refine D.q 15 rfl (by kernel_rfl) (by kernel_rfl) (q_ldE ck_9 rfl isF (by repeat (first | exact List.Mem.head _ | apply List.Mem.tail)) (by first | assumption | exact List.getElem?_eq_getElem (by first | assumption | omega | (simp; omega))) rfl) (fun _ h => h.subD) ?_ | refine D.q 15 rfl (by kernel_rfl) (by kernel_rfl) (q_ldE ck_9 rfl isO (by repeat (first | exact List.Mem.head _ | apply List.Mem.tail)) (by first | assumption | exact List.getElem?_eq_getElem (by first | assumption | omega | (simp; omega))) rfl) (fun _ h => h.subD) ?_
        refine D.q 16 rfl (by kernel_rfl) (by kernel_rfl) (q_lenS Try.underlying9 rfl) (fun _ h => h.subD) ?_
        refine D.q 17 rfl (by kernel_rfl) (by kernel_rfl) (q_add rfl rfl (by first | omega | (simp; omega)) (by first | omega | (simp; omega))) (fun _ h => h.subD) ?_
        refine D.q 18 rfl (by kernel_rfl) (by kernel_rfl) (q_assign rfl) (fun _ h => h.subD) ?_
        refine D.done (by kernel_rfl) ?_
        refine K.inBlock ?_
        refine K.region ?_
        refine KO.q rfl (q_move rfl) ?_
        refine KO.q rfl (q_add rfl rfl (by first | omega | (simp; omega)) (by first | omega | (simp; omega))) ?_
        refine KO.q rfl (q_assign rfl) ?_
        refine KO.done ?_
        refine K.weak (Env.sub_cons rfl (Env.sub_cons rfl (Env.sub_cons rfl (Env.sub_cons ?_ (Env.sub_cons rfl (Env.sub_nil _)))))) (fun w h => h.fitD) (ih3 ⟨k2 + 1, by omega⟩ (by show o.x.msgs.length - (k2 + 1) < o.x.msgs.length - k2; omega))
        show _ = some (Value.int .i64 ((P + 50 + o.x.name.size + (o.x.rows.map Rw.size).sum + ((o.x.msgs.take (k2 + 1)).map Msg.wt).sum : Nat) : Int))
        refine congrArg (fun z => some (Value.int .i64 z)) ?_
        omega
      · obtain rfl : k2 = o.x.msgs.length := by omega
        rw [List.take_length]
        refine K.exit rfl ?_
        refine K.seq ?_
        refine K.region ?_
        refine KO.q rfl (q_assign rfl) ?_
        refine KO.done ?_
        refine K.block ?_
        refine K.rounds2 (ι := { x : Nat // x ≤ o.x.dead.length }) (fun x => [(8, .int .i64 x.1), (5, .pointer (some ⟨b5, 0, none⟩)), (4, .int .i64 i), (3, .int .i64 ((P + 50 + o.x.name.size + (o.x.rows.map Rw.size).sum + (o.x.msgs.map Msg.wt).sum + ((o.x.dead.take x.1).map Msg.wt).sum : Nat) : Int)), (1, .pointer (some ⟨b1, 0, none⟩))]) (fun x => pv b5 108 o.cells :: ObL o ++ [pv b1 76 s.cells, RowF Kd.oz s.q s.l, NestF s.l] ++ L) (fun x => o.x.dead.length - x.1) ⟨0, Nat.zero_le _⟩ (Env.sub_cons rfl (Env.sub_cons rfl (Env.sub_cons rfl (Env.sub_cons (by refine congrArg (fun z => some (Value.int .i64 z)) ?_; simp) (Env.sub_cons rfl (Env.sub_nil _)))))) (fun w h => h.fitD) (fun x ih4 => ?_)
        obtain ⟨k3, hk3⟩ := x
        have hle4 := sum_take_le (f := Msg.wt) o.x.dead k3
        dsimp only at hk3 ⊢
        refine K.seq <| K.seq ?_
        refine K.region ?_
        refine KO.q rfl (q_move rfl) ?_
        refine KO.q rfl (q_field fo_108_5 rfl) ?_
        refine KO.q rfl (q_load1D ck_26 rfl) ?_
        refine KO.q rfl (q_len Try.underlying26 rfl) ?_
        refine KO.q rfl (q_lt rfl rfl) ?_
        refine KO.done ?_
        refine K.dcond (s := 81) rfl (fun g81 => ?_) (fun g81 => ?_)
        · obtain ⟨m, hm⟩ : ∃ e, o.x.dead[k3]? = some e := ⟨_, List.getElem?_eq_getElem (by omega)⟩
          have hss := sum_succ (f := Msg.wt) hm
          have hle2 := sum_take_le (f := Msg.wt) o.x.dead (k3 + 1)
          rw [show Msg.wt m = 60 + m.corr.size + m.body.size from rfl] at hss
          refine K.skip <| K.seq <| K.block ?_
          refine K.drawU (by repeat (first | apply SubL.pers | apply SubL.own (b := b5) | apply SubL.drop | exact SubL.none)) mixed ?_
          refine D.q 0 rfl (by kernel_rfl) (by kernel_rfl) (q_move rfl) (fun _ h => h.subD) ?_
          refine D.q 1 rfl (by kernel_rfl) (by kernel_rfl) (q_add rfl rfl (by first | omega | (simp; omega)) (by first | omega | (simp; omega))) (fun _ h => h.subD) ?_
          refine D.q 2 rfl (by kernel_rfl) (by kernel_rfl) (q_field fo_108_5 rfl) (fun _ h => h.subD) ?_
          refine D.q 3 rfl (by kernel_rfl) (by kernel_rfl) (q_load1D ck_26 rfl) (fun _ h => h.subD) ?_
          refine D.q 4 rfl (by kernel_rfl) (by kernel_rfl) (q_move rfl) (fun _ h => h.subD) ?_
          first | refine D.q 5 rfl (by kernel_rfl) (by kernel_rfl) (q_ix _ se_26 rfl rfl rfl isF (by repeat (first | exact List.Mem.head _ | apply List.Mem.tail)) rfl (by first | assumption | omega | exact (List.getElem?_eq_some_iff.1 (by assumption)).1 | (simp; omega))) (fun _ h => h.subD) ?_ | refine D.q 5 rfl (by kernel_rfl) (by kernel_rfl) (q_ix _ se_26 rfl rfl rfl isO (by repeat (first | exact List.Mem.head _ | apply List.Mem.tail)) rfl (by first | assumption | omega | exact (List.getElem?_eq_some_iff.1 (by assumption)).1 | (simp; omega))) (fun _ h => h.subD) ?_
          refine D.q 6 rfl (by kernel_rfl) (by kernel_rfl) (q_fieldE fo_24_4 rfl) (fun _ h => h.subD) ?_
          first | refine D.q 7 rfl (by kernel_rfl) (by kernel_rfl) (q_ldE ck_9 rfl isF (by repeat (first | exact List.Mem.head _ | apply List.Mem.tail)) (by first | assumption | exact List.getElem?_eq_getElem (by first | assumption | omega | (simp; omega))) rfl) (fun _ h => h.subD) ?_ | refine D.q 7 rfl (by kernel_rfl) (by kernel_rfl) (q_ldE ck_9 rfl isO (by repeat (first | exact List.Mem.head _ | apply List.Mem.tail)) (by first | assumption | exact List.getElem?_eq_getElem (by first | assumption | omega | (simp; omega))) rfl) (fun _ h => h.subD) ?_
          refine D.q 8 rfl (by kernel_rfl) (by kernel_rfl) (q_lenS Try.underlying9 rfl) (fun _ h => h.subD) ?_
          refine D.q 9 rfl (by kernel_rfl) (by kernel_rfl) (q_add rfl rfl (by first | omega | (simp; omega)) (by first | omega | (simp; omega))) (fun _ h => h.subD) ?_
          refine D.q 10 rfl (by kernel_rfl) (by kernel_rfl) (q_field fo_108_5 rfl) (fun _ h => h.subD) ?_
          refine D.q 11 rfl (by kernel_rfl) (by kernel_rfl) (q_load1D ck_26 rfl) (fun _ h => h.subD) ?_
          refine D.q 12 rfl (by kernel_rfl) (by kernel_rfl) (q_move rfl) (fun _ h => h.subD) ?_
          first | refine D.q 13 rfl (by kernel_rfl) (by kernel_rfl) (q_ix _ se_26 rfl rfl rfl isF (by repeat (first | exact List.Mem.head _ | apply List.Mem.tail)) rfl (by first | assumption | omega | exact (List.getElem?_eq_some_iff.1 (by assumption)).1 | (simp; omega))) (fun _ h => h.subD) ?_ | refine D.q 13 rfl (by kernel_rfl) (by kernel_rfl) (q_ix _ se_26 rfl rfl rfl isO (by repeat (first | exact List.Mem.head _ | apply List.Mem.tail)) rfl (by first | assumption | omega | exact (List.getElem?_eq_some_iff.1 (by assumption)).1 | (simp; omega))) (fun _ h => h.subD) ?_
          refine D.q 14 rfl (by kernel_rfl) (by kernel_rfl) (q_fieldE fo_24_5 rfl) (fun _ h => h.subD) ?_
          first | refine D.q 15 rfl (by kernel_rfl) (by kernel_rfl) (q_ldE ck_9 rfl isF (by repeat (first | exact List.Mem.head _ | apply List.Mem.tail)) (by first | assumption | exact List.getElem?_eq_getElem (by first | assumption | omega | (simp; omega))) rfl) (fun _ h => h.subD) ?_ | refine D.q 15 rfl (by kernel_rfl) (by kernel_rfl) (q_ldE ck_9 rfl isO (by repeat (first | exact List.Mem.head _ | apply List.Mem.tail)) (by first | assumption | exact List.getElem?_eq_getElem (by first | assumption | omega | (simp; omega))) rfl) (fun _ h => h.subD) ?_
          refine D.q 16 rfl (by kernel_rfl) (by kernel_rfl) (q_lenS Try.underlying9 rfl) (fun _ h => h.subD) ?_
          refine D.q 17 rfl (by kernel_rfl) (by kernel_rfl) (q_add rfl rfl (by first | omega | (simp; omega)) (by first | omega | (simp; omega))) (fun _ h => h.subD) ?_
          refine D.q 18 rfl (by kernel_rfl) (by kernel_rfl) (q_assign rfl) (fun _ h => h.subD) ?_
          refine D.done (by kernel_rfl) ?_
          refine K.inBlock ?_
          refine K.region ?_
          refine KO.q rfl (q_move rfl) ?_
          refine KO.q rfl (q_add rfl rfl (by first | omega | (simp; omega)) (by first | omega | (simp; omega))) ?_
          refine KO.q rfl (q_assign rfl) ?_
          refine KO.done ?_
          refine K.weak (Env.sub_cons rfl (Env.sub_cons rfl (Env.sub_cons rfl (Env.sub_cons ?_ (Env.sub_cons rfl (Env.sub_nil _)))))) (fun w h => h.fitD) (ih4 ⟨k3 + 1, by omega⟩ (by show o.x.dead.length - (k3 + 1) < o.x.dead.length - k3; omega))
          show _ = some (Value.int .i64 ((P + 50 + o.x.name.size + (o.x.rows.map Rw.size).sum + (o.x.msgs.map Msg.wt).sum + ((o.x.dead.take (k3 + 1)).map Msg.wt).sum : Nat) : Int))
          refine congrArg (fun z => some (Value.int .i64 z)) ?_
          omega
        · obtain rfl : k3 = o.x.dead.length := by omega
          rw [List.take_length]
          refine K.exit rfl ?_
          refine K.inBlock ?_
          refine K.region ?_
          refine KO.q rfl (q_move rfl) ?_
          refine KO.q rfl (q_add rfl rfl (by first | omega | (simp; omega)) (by first | omega | (simp; omega))) ?_
          refine KO.q rfl (q_assign rfl) ?_
          refine KO.done ?_
          refine K.weak (Env.sub_cons rfl (Env.sub_cons ?_ (Env.sub_cons rfl (Env.sub_nil _)))) (fun w h => h.fitD) (ih ⟨i + 1, by omega⟩ (by show s.l.length - (i + 1) < s.l.length - i; omega))
          show _ = some (Value.int .i64 ((16 + ((s.l.take (i + 1)).map (fun o => o.x.size)).sum : Nat) : Int))
          refine congrArg (fun z => some (Value.int .i64 z)) ?_
          omega
  · obtain rfl : i = s.l.length := by omega
    have hfin : 16 + ((s.l.take s.l.length).map (fun o => o.x.size)).sum = s.st.size := by
      rw [List.take_length]
      unfold Stt.size Sz.st
      rw [List.map_map]; rfl
    rw [hfin]
    refine K.exit rfl ?_
    refine K.seq ?_
    refine K.region ?_
    refine KO.q rfl (q_move rfl) ?_
    refine KO.q rfl (q_assign rfl) ?_
    refine KO.done ?_
    refine K.ret (fn := Try.f61) Try.func61 (fun a w hk hs => res1 Try.results61 hk rfl) (fun w hs => ?_)
    exact ⟨_, [], rfl, ⟨rfl, rfl⟩, hs.fitD⟩
end Go.Proofs.Ytlellgnklohclaa.L
