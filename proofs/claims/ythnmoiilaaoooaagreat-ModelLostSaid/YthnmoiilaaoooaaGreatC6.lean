/- Walks: how many there are, how great a state is; which states may be, by the document. -/
import Derived.Test.YthnmoiilaaoooaaGreatC5
namespace Go.Proofs.YthnmoiilaaoooaaGreat.L
open Go Go.Proofs
attribute [local irreducible] pv fv pt fz RowF RowO rowP old pure_ elA
set_option maxRecDepth 100000
set_option linter.unusedSimpArgs false
set_option linter.unusedVariables false

/-- So many things a state has. -/
def Ob.cnt (o : Ob) : Nat := 1 + o.rows.length + o.msgs.length + o.dead.length
def Sz.cnt (s : Sz) (i : Nat) : Nat := ((s.l.take i).map (fun o => o.x.cnt)).sum
theorem cnt_succ {s : Sz} {i : Nat} {o : Oz} (h : s.l[i]? = some o) : s.cnt (i + 1) = s.cnt i + o.x.cnt := by
  unfold Sz.cnt
  rw [List.take_add_one, h]; simp
--%call poste/postelaw19.Few := few19 _ (by assumption) !! ⟨_, ⟨fb#, rfl, hfb#, rfl⟩, rfl⟩
set_option maxHeartbeats 800000 in
theorem few19 (s : Sz) (hok : s.ok) : Fn Tryz.prog 6 [.agg s.cells.toArray].toArray (StL s) (fun r post => ∃ b, r = .bool b ∧ (b = true → s.cnt s.l.length ≤ 200) ∧ post = []) := by
  obtain ⟨hn0, hl, hlc, hall⟩ := hok
  refine Fn.enter (N := 44) Tryz.func6 rfl Tryz.ntmps6 (by kernel_rfl) rfl (fun ρ L => ?_)
  refine K.seq ?_
  refine K.region ?_
  refine KO.loud rfl (l_box rfl rfl) ?_
  rintro _ _ ⟨b1, rfl, rfl⟩
  refine KO.q rfl (q_assign rfl) ?_
  refine KO.done ?_
  refine K.seq ?_
  refine K.region ?_
  refine KO.q rfl (q_assign rfl) ?_
  refine KO.done ?_
  refine K.seq <| K.seq ?_
  refine K.region ?_
  refine KO.q rfl (q_assign rfl) ?_
  refine KO.done ?_
  refine K.block ?_
  refine K.rounds2 (ι := { x : Nat // x ≤ s.l.length ∧ s.cnt x ≤ 562949953421312 }) (fun x => [(4, .int .i64 x.1), (3, .int .i64 (s.cnt x.1)), (1, .pointer (some ⟨b1, 0, none⟩))]) (fun x => [pv b1 24 s.cells, RowF Kd.oz s.q s.l, NestF s.l] ++ L) (fun x => s.l.length - x.1) ⟨0, Nat.zero_le _, by simp [Sz.cnt]⟩ (by repeat (first | exact Env.sub_nil _ | refine Env.sub_cons rfl ?_)) (fun w h => h.fitD) (fun x ih => ?_)
  obtain ⟨i, hi, hc⟩ := x
  dsimp only at hi hc ⊢
  refine K.seq <| K.seq ?_
  refine K.region ?_
  refine KO.q rfl (q_move rfl) ?_
  refine KO.q rfl (q_field fo_24_1 rfl) ?_
  refine KO.q rfl (q_load1D ck_22 rfl) ?_
  refine KO.q rfl (q_len Tryz.underlying22 rfl) ?_
  refine KO.q rfl (q_lt rfl rfl) ?_
  refine KO.q rfl (q_move rfl) ?_
  refine KO.dsplit 10 rfl (fun g10 => ?_) (fun g10 => ?_)
  · obtain ⟨o, ho⟩ : ∃ e, s.l[i]? = some e := ⟨_, List.getElem?_eq_getElem (by omega)⟩
    have hmo := List.mem_of_getElem? ho
    obtain ⟨⟨_, _, _, _, _, _, ha, hb, hd⟩, _⟩ := hall o hmo
    have hcs := cnt_succ ho
    unfold Ob.cnt at hcs
    refine KO.q rfl (q_move rfl) ?_
    refine KO.q rfl (q_le rfl rfl) ?_
    refine KO.q rfl (q_pickT rfl rfl) ?_
    refine KO.done ?_
    refine K.dcond (s := 13) rfl (fun g13 => ?_) (fun g13 => ?_)
    · refine K.skip <| K.seq <| K.block ?_
      refine K.drawU (by repeat (first | apply SubL.pers | apply SubL.own (b := b1) | apply SubL.drop | exact SubL.none)) mixed ?_
      refine D.q 0 rfl (by kernel_rfl) (by kernel_rfl) (q_move rfl) (fun _ h => h.subD) ?_
      refine D.q 1 rfl (by kernel_rfl) (by kernel_rfl) (q_add rfl rfl (by first | omega | (simp; omega)) (by first | omega | (simp; omega))) (fun _ h => h.subD) ?_
      refine D.q 2 rfl (by kernel_rfl) (by kernel_rfl) (q_field fo_24_1 rfl) (fun _ h => h.subD) ?_
      refine D.q 3 rfl (by kernel_rfl) (by kernel_rfl) (q_load1D ck_22 rfl) (fun _ h => h.subD) ?_
      refine D.q 4 rfl (by kernel_rfl) (by kernel_rfl) (q_move rfl) (fun _ h => h.subD) ?_
      first | refine D.q 5 rfl (by kernel_rfl) (by kernel_rfl) (q_ix _ se_22 rfl rfl rfl isF (by repeat (first | exact List.Mem.head _ | apply List.Mem.tail)) rfl (by first | assumption | omega | exact (List.getElem?_eq_some_iff.1 (by assumption)).1 | (simp; omega))) (fun _ h => h.subD) ?_ | refine D.q 5 rfl (by kernel_rfl) (by kernel_rfl) (q_ix _ se_22 rfl rfl rfl isO (by repeat (first | exact List.Mem.head _ | apply List.Mem.tail)) rfl (by first | assumption | omega | exact (List.getElem?_eq_some_iff.1 (by assumption)).1 | (simp; omega))) (fun _ h => h.subD) ?_
      refine D.q 6 rfl (by kernel_rfl) (by kernel_rfl) (q_fieldE fo_33_3 rfl) (fun _ h => h.subD) ?_
      first | refine D.q 7 rfl (by kernel_rfl) (by kernel_rfl) (q_ldE ck_30 rfl isF (by repeat (first | exact List.Mem.head _ | apply List.Mem.tail)) (by first | assumption | exact List.getElem?_eq_getElem (by first | assumption | omega | (simp; omega))) rfl) (fun _ h => h.subD) ?_ | refine D.q 7 rfl (by kernel_rfl) (by kernel_rfl) (q_ldE ck_30 rfl isO (by repeat (first | exact List.Mem.head _ | apply List.Mem.tail)) (by first | assumption | exact List.getElem?_eq_getElem (by first | assumption | omega | (simp; omega))) rfl) (fun _ h => h.subD) ?_
      refine D.q 8 rfl (by kernel_rfl) (by kernel_rfl) (q_len Tryz.underlying30 rfl) (fun _ h => h.subD) ?_
      refine D.q 9 rfl (by kernel_rfl) (by kernel_rfl) (q_add rfl rfl (by first | omega | (simp; omega)) (by first | omega | (simp; omega))) (fun _ h => h.subD) ?_
      refine D.q 10 rfl (by kernel_rfl) (by kernel_rfl) (q_field fo_24_1 rfl) (fun _ h => h.subD) ?_
      refine D.q 11 rfl (by kernel_rfl) (by kernel_rfl) (q_load1D ck_22 rfl) (fun _ h => h.subD) ?_
      refine D.q 12 rfl (by kernel_rfl) (by kernel_rfl) (q_move rfl) (fun _ h => h.subD) ?_
      first | refine D.q 13 rfl (by kernel_rfl) (by kernel_rfl) (q_ix _ se_22 rfl rfl rfl isF (by repeat (first | exact List.Mem.head _ | apply List.Mem.tail)) rfl (by first | assumption | omega | exact (List.getElem?_eq_some_iff.1 (by assumption)).1 | (simp; omega))) (fun _ h => h.subD) ?_ | refine D.q 13 rfl (by kernel_rfl) (by kernel_rfl) (q_ix _ se_22 rfl rfl rfl isO (by repeat (first | exact List.Mem.head _ | apply List.Mem.tail)) rfl (by first | assumption | omega | exact (List.getElem?_eq_some_iff.1 (by assumption)).1 | (simp; omega))) (fun _ h => h.subD) ?_
      refine D.q 14 rfl (by kernel_rfl) (by kernel_rfl) (q_fieldE fo_33_4 rfl) (fun _ h => h.subD) ?_
      first | refine D.q 15 rfl (by kernel_rfl) (by kernel_rfl) (q_ldE ck_31 rfl isF (by repeat (first | exact List.Mem.head _ | apply List.Mem.tail)) (by first | assumption | exact List.getElem?_eq_getElem (by first | assumption | omega | (simp; omega))) rfl) (fun _ h => h.subD) ?_ | refine D.q 15 rfl (by kernel_rfl) (by kernel_rfl) (q_ldE ck_31 rfl isO (by repeat (first | exact List.Mem.head _ | apply List.Mem.tail)) (by first | assumption | exact List.getElem?_eq_getElem (by first | assumption | omega | (simp; omega))) rfl) (fun _ h => h.subD) ?_
      refine D.q 16 rfl (by kernel_rfl) (by kernel_rfl) (q_len Tryz.underlying31 rfl) (fun _ h => h.subD) ?_
      refine D.q 17 rfl (by kernel_rfl) (by kernel_rfl) (q_add rfl rfl (by first | omega | (simp; omega)) (by first | omega | (simp; omega))) (fun _ h => h.subD) ?_
      refine D.q 18 rfl (by kernel_rfl) (by kernel_rfl) (q_field fo_24_1 rfl) (fun _ h => h.subD) ?_
      refine D.q 19 rfl (by kernel_rfl) (by kernel_rfl) (q_load1D ck_22 rfl) (fun _ h => h.subD) ?_
      refine D.q 20 rfl (by kernel_rfl) (by kernel_rfl) (q_move rfl) (fun _ h => h.subD) ?_
      first | refine D.q 21 rfl (by kernel_rfl) (by kernel_rfl) (q_ix _ se_22 rfl rfl rfl isF (by repeat (first | exact List.Mem.head _ | apply List.Mem.tail)) rfl (by first | assumption | omega | exact (List.getElem?_eq_some_iff.1 (by assumption)).1 | (simp; omega))) (fun _ h => h.subD) ?_ | refine D.q 21 rfl (by kernel_rfl) (by kernel_rfl) (q_ix _ se_22 rfl rfl rfl isO (by repeat (first | exact List.Mem.head _ | apply List.Mem.tail)) rfl (by first | assumption | omega | exact (List.getElem?_eq_some_iff.1 (by assumption)).1 | (simp; omega))) (fun _ h => h.subD) ?_
      refine D.q 22 rfl (by kernel_rfl) (by kernel_rfl) (q_fieldE fo_33_5 rfl) (fun _ h => h.subD) ?_
      first | refine D.q 23 rfl (by kernel_rfl) (by kernel_rfl) (q_ldE ck_31 rfl isF (by repeat (first | exact List.Mem.head _ | apply List.Mem.tail)) (by first | assumption | exact List.getElem?_eq_getElem (by first | assumption | omega | (simp; omega))) rfl) (fun _ h => h.subD) ?_ | refine D.q 23 rfl (by kernel_rfl) (by kernel_rfl) (q_ldE ck_31 rfl isO (by repeat (first | exact List.Mem.head _ | apply List.Mem.tail)) (by first | assumption | exact List.getElem?_eq_getElem (by first | assumption | omega | (simp; omega))) rfl) (fun _ h => h.subD) ?_
      refine D.q 24 rfl (by kernel_rfl) (by kernel_rfl) (q_len Tryz.underlying31 rfl) (fun _ h => h.subD) ?_
      refine D.q 25 rfl (by kernel_rfl) (by kernel_rfl) (q_add rfl rfl (by first | omega | (simp; omega)) (by first | omega | (simp; omega))) (fun _ h => h.subD) ?_
      refine D.q 26 rfl (by kernel_rfl) (by kernel_rfl) (q_assign rfl) (fun _ h => h.subD) ?_
      refine D.done (by kernel_rfl) ?_
      refine K.inBlock ?_
      refine K.region ?_
      refine KO.q rfl (q_move rfl) ?_
      refine KO.q rfl (q_add rfl rfl (by first | omega | (simp; omega)) (by first | omega | (simp; omega))) ?_
      refine KO.q rfl (q_assign rfl) ?_
      refine KO.done ?_
      refine K.weak (Env.sub_cons rfl (Env.sub_cons ?_ (Env.sub_cons rfl (Env.sub_nil _)))) (fun w h => h.fitD) (ih ⟨i + 1, by omega, by omega⟩ (by show s.l.length - (i + 1) < s.l.length - i; omega))
      show _ = some (Value.int .i64 ((s.cnt (i + 1) : Nat) : Int))
      refine congrArg (fun z => some (Value.int .i64 z)) ?_
      omega
    · refine K.exit rfl ?_
      refine K.seq ?_
      refine K.region ?_
      refine KO.q rfl (q_move rfl) ?_
      refine KO.q rfl (q_le rfl rfl) ?_
      refine KO.q rfl (q_assign rfl) ?_
      refine KO.done ?_
      refine K.ret (fn := Tryz.f6) Tryz.func6 (fun a w hk hs => res1 Tryz.results6 hk rfl) (fun w hs => ?_)
      refine ⟨_, [], rfl, ⟨_, rfl, fun hb => ?_, rfl⟩, hs.fitD⟩
      have h200 := of_decide_eq_true hb
      first
        | (obtain rfl : i = s.l.length := by omega
           omega)
        | omega
  · refine KO.skip rfl ?_
    refine KO.skip rfl ?_
    refine KO.q rfl (q_pickF rfl rfl) ?_
    refine KO.done ?_
    refine K.no rfl ?_
    refine K.exit rfl ?_
    refine K.seq ?_
    refine K.region ?_
    refine KO.q rfl (q_move rfl) ?_
    refine KO.q rfl (q_le rfl rfl) ?_
    refine KO.q rfl (q_assign rfl) ?_
    refine KO.done ?_
    refine K.ret (fn := Tryz.f6) Tryz.func6 (fun a w hk hs => res1 Tryz.results6 hk rfl) (fun w hs => ?_)
    refine ⟨_, [], rfl, ⟨_, rfl, fun hb => ?_, rfl⟩, hs.fitD⟩
    have h200 := of_decide_eq_true hb
    first
      | (obtain rfl : i = s.l.length := by omega
         omega)
      | omega
/-- So great is a state. -/
def Rw.size (r : Rw) : Nat := 20 + r.key.size + r.value.size
def Msg.wt (m : Msg) : Nat := 60 + m.corr.size + m.body.size
def Ob.size (o : Ob) : Nat := 50 + o.name.size + (o.rows.map Rw.size).sum + (o.msgs.map Msg.wt).sum + (o.dead.map Msg.wt).sum
def Stt.size (s : Stt) : Nat := 16 + (s.objs.map Ob.size).sum
theorem sum_succ {α : Type} {f : α → Nat} {l : List α} {i : Nat} {x : α} (h : l[i]? = some x) : ((l.take (i + 1)).map f).sum = ((l.take i).map f).sum + f x := by
  rw [List.take_add_one, h]; simp
theorem sum_le_mul {α : Type} {f : α → Nat} {c : Nat} : ∀ (l : List α), (∀ x ∈ l, f x ≤ c) → (l.map f).sum ≤ l.length * c
  | [], _ => by simp
  | x :: l, h => by
    have h1 := h x List.mem_cons_self
    have h2 := sum_le_mul l (fun y hy => h y (List.mem_cons_of_mem _ hy))
    simp only [List.map_cons, List.sum_cons, List.length_cons, Nat.succ_mul]
    omega
theorem sum_take_le {α : Type} {f : α → Nat} (l : List α) (i : Nat) : ((l.take i).map f).sum ≤ (l.map f).sum := by
  conv => rhs; rw [← List.take_append_drop i l]
  rw [List.map_append, List.sum_append]; omega
theorem ob_size_le {o : Oz} (h : o.ok) : o.x.size ≤ o.x.cnt * 281474976710656 := by
  obtain ⟨⟨h1, _, _, h4, h5, h6, _⟩, _⟩ := h
  have a := sum_le_mul (f := Rw.size) (c := 281474976710656) o.x.rows (fun r hr => by have := h4 r hr; unfold Rw.sm at this; unfold Rw.size; omega)
  have b := sum_le_mul (f := Msg.wt) (c := 281474976710656) o.x.msgs (fun r hr => by have := h5 r hr; unfold Msg.sm at this; unfold Msg.wt; omega)
  have c := sum_le_mul (f := Msg.wt) (c := 281474976710656) o.x.dead (fun r hr => by have := h6 r hr; unfold Msg.sm at this; unfold Msg.wt; omega)
  unfold Ob.size Ob.cnt
  omega
theorem sz_size_le {s : Sz} (h : s.ok) : ∀ i, ((s.l.take i).map (fun o => o.x.size)).sum ≤ s.cnt i * 281474976710656 := by
  intro i
  have key : ∀ l : List Oz, (∀ o ∈ l, o.ok) → (l.map (fun o => o.x.size)).sum ≤ (l.map (fun o => o.x.cnt)).sum * 281474976710656 := fun l => by
    induction l with
    | nil => intro _; simp
    | cons o l ih =>
      intro hl
      have h1 := ob_size_le (hl o List.mem_cons_self)
      have h2 := ih (fun x hx => hl x (List.mem_cons_of_mem _ hx))
      simp only [List.map_cons, List.sum_cons, Nat.add_mul]
      omega
  exact key _ (fun o ho => h.2.2.2 o (List.mem_of_mem_take ho))
theorem cnt_mono (s : Sz) (i : Nat) : s.cnt i ≤ s.cnt s.l.length := by
  unfold Sz.cnt
  rw [List.take_length]
  exact sum_take_le _ _
end Go.Proofs.YthnmoiilaaoooaaGreat.L
