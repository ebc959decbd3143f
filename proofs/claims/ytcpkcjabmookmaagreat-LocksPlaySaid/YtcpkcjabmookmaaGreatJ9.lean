/- Walks: the locks' table: freeing. -/
import Derived.Test.YtcpkcjabmookmaaGreatJ8
namespace Go.Proofs.YtcpkcjabmookmaaGreat.L
open Go Go.Proofs
attribute [local irreducible] pv fv pt fz RowF RowO rowP old pure_ elA
set_option maxRecDepth 100000
set_option linter.unusedSimpArgs false
set_option linter.unusedVariables false

def drE (who : Int) (e : E) : E := if e.k.mine who = true then ⟨e.name, e.p, (e.k.drop who).2⟩ else e
def outE (who : Int) (e : E) : List Int := if e.k.mine who = true then (e.k.drop who).1 else []
def drT (who : Int) (e : Ent) : Ent := if e.k.mine who = true then ⟨e.name, (e.k.drop who).2⟩ else e
def outT (who : Int) (e : Ent) : List Int := if e.k.mine who = true then (e.k.drop who).1 else []
def noneK (k : Lk) : Bool := decide ((k.holds.length : Int) = 0)
/-- Freeing: who is let in, the entries, how many hold or wait. -/
def freeT (T : List Ent) (n : Int) (who : Int) : List Int × List Ent × Int := (T.flatMap (outT who), (T.map (drT who)).filter (fun e => !noneK e.k), n - ((T.filter (fun e => e.k.mine who)).length : Int))
theorem drE_abs (who : Int) (e : E) : (drE who e).abs = drT who e.abs := by
  unfold drE drT E.abs; split <;> rfl
theorem drE_cells (who : Int) (e : E) : (drE who e).cells = e.cells := by
  unfold drE; split <;> rfl
theorem ixf_e (A R : HP) (q : Option Addr) (cap : Nat) (l : List E) (hA : IsRow A Kd.e q l) (f : FuncId) (cs : List Value) (p : E → Bool) (hl : (l.length : Int) ≤ 9223372036854775807) (hf : ∀ x ∈ l, Fn Tryz.prog f (Value.agg x.cells.toArray :: cs).toArray [R] (fun v post => v = .bool (p x) ∧ post = [R])) :
    Fn Tryz.prog 69 [.slice q l.length cap, .func (.func f) #[] cs.toArray].toArray [A, R] (fun r post => r = .int .i64 (idxP p l) ∧ post = [A, R]) := by
  refine Fn.enter (N := 19) Tryz.func69 rfl Tryz.ntmps69 (by kernel_rfl) rfl (fun ρ L => ?_)
  refine K.seq ?_
  refine K.region ?_
  refine KO.q rfl (q_assign rfl) ?_
  refine KO.done ?_
  refine K.seq <| K.seq ?_
  refine K.region ?_
  refine KO.q rfl (q_move rfl) ?_
  refine KO.q rfl (q_len Tryz.underlying51 rfl) ?_
  refine KO.q rfl (q_move rfl) ?_
  refine KO.done ?_
  refine K.block ?_
  refine K.rloop (ι := { i : Nat // i ≤ l.length ∧ (l.take i).any p = false }) (fun x => [(8, .int .i64 x.1), (7, .int .i64 l.length), (0, .slice q l.length cap), (1, .func (.func f) #[] cs.toArray)]) (fun x => l.length - x.1) ⟨0, Nat.zero_le _, rfl⟩ (by repeat (first | exact Env.sub_nil _ | refine Env.sub_cons rfl ?_)) (fun x ih => ?_)
  obtain ⟨i, hi, hz⟩ := x
  dsimp only at hi hz ⊢
  refine K.seq ?_
  refine K.region ?_
  refine KO.q rfl (q_lt rfl rfl) ?_
  refine KO.done ?_
  refine K.seq ?_
  refine K.dcond (s := 9) rfl (fun g9 => ?_) (fun g9 => ?_)
  · obtain ⟨e, he⟩ : ∃ e, l[i]? = some e := ⟨_, List.getElem?_eq_getElem (by omega)⟩
    refine K.skip <| K.seq <| K.block <| K.seq ?_
    refine K.region ?_
    refine KO.q rfl (q_move rfl) ?_
    refine KO.q rfl (q_assign rfl) ?_
    refine KO.done ?_
    refine K.seq ?_
    refine K.region ?_
    refine KO.q rfl (q_move rfl) ?_
    refine KO.q rfl (q_move rfl) ?_
    refine KO.q rfl (q_move rfl) ?_
    refine KO.q rfl (q_ix i se_51 rfl rfl rfl hA (by repeat (first | exact List.Mem.head _ | apply List.Mem.tail)) rfl (by omega)) ?_
    refine KO.q rfl (q_ldEN ck_63 rfl hA (by repeat (first | exact List.Mem.head _ | apply List.Mem.tail)) he) ?_
    refine KO.loud rfl (OpL.callCG (first := []) (captured := cs) rfl rfl (by repeat (first | exact Give.nil | (apply Give.perI; (repeat (first | exact List.Mem.head _ | apply List.Mem.tail))) | (apply Give.own; (repeat (first | exact Pick.here | apply Pick.there))))) (hf e (List.mem_of_getElem? he))) ?_
    rintro _ _ ⟨_, ⟨rfl, rfl⟩, rfl⟩
    refine KO.done ?_
    refine K.bcond (s := 16) rfl (fun g16 => ?_) (fun g16 => ?_)
    · refine K.seq ?_
      have hr : idxP p l = i := idxP_some he g16 hz
      refine K.region ?_
      refine KO.q rfl (q_move rfl) ?_
      refine KO.q rfl (q_assign rfl) ?_
      refine KO.done ?_
      refine K.ret (fn := Tryz.f69) Tryz.func69 (fun a w hk hs => res1 Tryz.results69 hk rfl) (fun w hs => ?_)
      rw [hr]
      exact ⟨_, [A, R], rfl, ⟨rfl, rfl⟩, hs.fitD⟩
    · refine K.skip <| K.inBlock ?_
      refine K.region ?_
      refine KO.q rfl (q_add rfl rfl (by first | omega | (simp; omega)) (by first | omega | (simp; omega))) ?_
      refine KO.q rfl (q_move rfl) ?_
      refine KO.done ?_
      exact K.weak (by repeat (first | exact Env.sub_nil _ | refine Env.sub_cons rfl ?_)) (fun w h => h.fitD) (ih ⟨i + 1, by omega, by rw [any_take_succ he, hz, g16]; rfl⟩ (by show l.length - (i + 1) < l.length - i; omega))
  · refine K.exit rfl ?_
    refine K.seq ?_
    have hr : idxP p l = -1 := idxP_none (by rw [List.take_of_length_le (by omega)] at hz; exact hz)
    refine K.region ?_
    refine KO.q rfl (q_assign rfl) ?_
    refine KO.done ?_
    refine K.ret (fn := Tryz.f69) Tryz.func69 (fun a w hk hs => res1 Tryz.results69 hk rfl) (fun w hs => ?_)
    rw [hr]
    exact ⟨_, [A, R], rfl, ⟨rfl, rfl⟩, hs.fitD⟩
set_option maxHeartbeats 800000 in
theorem delf_e (R : HP) (q : Option Addr) (cap : Nat) (l : List E) (f : FuncId) (cs : List Value) (p : E → Bool) (hc : l.length ≤ cap) (hb : l.length ≤ 1000000000000) (hf : ∀ x ∈ l, Fn Tryz.prog f (Value.agg x.cells.toArray :: cs).toArray [R] (fun v post => v = .bool (p x) ∧ post = [R])) :
    Fn Tryz.prog 36 [.slice q l.length cap, .func (.func f) #[] cs.toArray].toArray [RowO Kd.e 63 q cap l, R] (fun r post => r = .slice q (l.filter (fun x => !p x)).length cap ∧ post = [RowO Kd.e 63 q cap (l.filter (fun x => !p x)), R]) := by
  refine Fn.enter (N := 42) Tryz.func36 rfl Tryz.ntmps36 (by kernel_rfl) rfl (fun ρ L => ?_)
  refine K.seq ?_
  refine K.region ?_
  refine KO.q rfl (q_assign rfl) ?_
  refine KO.done ?_
  refine K.seq ?_
  refine K.region ?_
  refine KO.q rfl (q_move rfl) ?_
  refine KO.q rfl (q_move rfl) ?_
  refine KO.loud rfl (OpL.callD rfl (h := ixf_e (RowO Kd.e 63 q cap l) R q cap l isO f cs p (by omega) hf)) ?_
  rintro _ _ ⟨_, ⟨rfl, rfl⟩, rfl⟩
  refine KO.q rfl (q_assign rfl) ?_
  refine KO.done ?_
  refine K.seq <| K.seq ?_
  refine K.region ?_
  refine KO.q rfl (q_move rfl) ?_
  refine KO.q rfl (q_eq rfl rfl) ?_
  refine KO.done ?_
  refine K.dcond (s := 12) rfl (fun g12 => ?_) (fun g12 => ?_)
  · have hnone : l.filter (fun x => !p x) = l := by
      rw [List.filter_eq_self]
      intro x hx
      have hany : l.any p = false := by rw [← idxP_any, g12]; rfl
      rw [List.any_eq_false] at hany
      simpa using hany x hx
    rw [hnone]
    refine K.seq ?_
    refine K.region ?_
    refine KO.q rfl (q_move rfl) ?_
    refine KO.q rfl (q_assign rfl) ?_
    refine KO.done ?_
    refine K.ret (fn := Tryz.f36) Tryz.func36 (fun a w hk hs => res1 Tryz.results36 hk rfl) (fun w hs => ?_)
    first
      | exact ⟨_, [RowO Kd.e 63 q cap l, R], rfl, ⟨rfl, rfl⟩, hs.fitD⟩
      | exact ⟨_, [RowO Kd.e 63 q cap (l.filter (fun x => !p x)), R], rfl, ⟨by rw [hlen]; rfl, rfl⟩, hs.fitD⟩
  · obtain ⟨i0, x0, hx0, hi0, hany⟩ : ∃ (i : Nat) (x : E), l[i]? = some x ∧ idxP p l = (i : Int) ∧ p x = true ∧ (l.take i).filter (fun x => !p x) = l.take i := by
      unfold idxP at g12 ⊢
      rcases hfi : l.findIdx? p with _ | i
      · rw [hfi] at g12; exact absurd rfl g12
      · rw [List.findIdx?_eq_some_iff_getElem] at hfi
        obtain ⟨hi, h1, h2⟩ := hfi
        refine ⟨i, l[i], List.getElem?_eq_getElem hi, rfl, h1, ?_⟩
        rw [List.filter_eq_self]
        intro x hx
        obtain ⟨j, hj, rfl⟩ := List.mem_take_iff_getElem.1 hx
        simpa using h2 j (by omega)
    have hil := (List.getElem?_eq_some_iff.1 hx0).1
    rw [hi0]
    refine K.skip <| K.seq <| K.seq ?_
    refine K.region ?_
    refine KO.q rfl (q_move rfl) ?_
    refine KO.q rfl (q_add rfl rfl (by first | omega | (simp; omega)) (by first | omega | (simp; omega))) ?_
    refine KO.q rfl (q_assign rfl) ?_
    refine KO.done ?_
    refine K.block ?_
    refine K.rounds2 (ι := { x : Nat × Nat × List E // x.1 < x.2.1 ∧ x.2.1 ≤ l.length ∧ x.2.2.length = l.length ∧ x.2.2.take x.1 = (l.take x.2.1).filter (fun x => !p x) ∧ x.2.2.drop x.2.1 = l.drop x.2.1 }) (fun x => [(6, .int .i64 x.1.2.1), (5, .int .i64 x.1.1), (0, .slice q l.length cap), (1, .func (.func f) #[] cs.toArray)]) (fun x => [RowO Kd.e 63 q cap x.1.2.2, R] ++ L) (fun x => l.length - x.1.2.1) ⟨(i0, i0 + 1, l), Nat.lt_succ_self _, by show i0 + 1 ≤ l.length; omega, rfl, by show l.take i0 = (l.take (i0 + 1)).filter _; rw [filt_succ hx0, if_pos hany.1, List.append_nil, hany.2], rfl⟩ (by repeat (first | exact Env.sub_nil _ | refine Env.sub_cons rfl ?_)) (fun w h => h.fitD) (fun x ih => ?_)
    obtain ⟨⟨i, j, M⟩, hij, hj, hM, ht, hd⟩ := x
    dsimp only at hij hj hM ht hd ⊢
    refine K.seq <| K.seq ?_
    refine K.region ?_
    refine KO.q rfl (q_move rfl) ?_
    refine KO.q rfl (q_move rfl) ?_
    refine KO.q rfl (q_len Tryz.underlying51 rfl) ?_
    refine KO.q rfl (q_lt rfl rfl) ?_
    refine KO.done ?_
    refine K.dcond (s := 19) rfl (fun g19 => ?_) (fun g19 => ?_)
    · obtain ⟨e, he⟩ : ∃ e, l[j]? = some e := ⟨_, List.getElem?_eq_getElem (by omega)⟩
      have heM : M[j]? = some e := by
        have := congrArg (fun z => z[0]?) hd
        simpa [List.getElem?_drop, he] using this
      have hfs := filt_succ (p := p) he
      refine K.skip <| K.seq <| K.block <| K.seq ?_
      refine K.region ?_
      refine KO.q rfl (q_move rfl) ?_
      refine KO.q rfl (q_move rfl) ?_
      refine KO.q rfl (q_ix (xs := M) j se_51 rfl rfl rfl isO (by repeat (first | exact List.Mem.head _ | apply List.Mem.tail)) hM.symm (by omega)) ?_
      refine KO.q rfl (q_ldEN (xs := M) ck_63 rfl isO (by repeat (first | exact List.Mem.head _ | apply List.Mem.tail)) heM) ?_
      refine KO.loud rfl (l_alloc zo_63) ?_
      rintro _ _ ⟨b7, rfl, rfl⟩
      refine KO.loudN rfl (l_storeAll ck_63 rfl rfl ⟨rfl, rfl⟩ (e_one _) (by repeat (first | exact Pick.here | apply Pick.there))) ?_
      rintro _ _ ⟨rfl, rfl⟩
      refine KO.done ?_
      refine K.seq ?_
      refine K.region ?_
      refine KO.q rfl (q_move rfl) ?_
      refine KO.q rfl (q_loadN ck_63 rfl rfl (by first | (apply cells_pv; (repeat (first | exact List.Mem.head _ | apply List.Mem.tail))) | (apply cells_fv; (repeat (first | exact List.Mem.head _ | apply List.Mem.tail))))) ?_
      refine KO.loud rfl (OpL.callCG (first := []) (captured := cs) rfl rfl (by repeat (first | exact Give.nil | (apply Give.perI; (repeat (first | exact List.Mem.head _ | apply List.Mem.tail))) | (apply Give.own; (repeat (first | exact Pick.here | apply Pick.there))))) (hf e (List.mem_of_getElem? he))) ?_
      rintro _ _ ⟨_, ⟨rfl, rfl⟩, rfl⟩
      refine KO.q rfl (q_not rfl) ?_
      refine KO.done ?_
      refine K.bcond (s := 29) rfl (fun g29 => ?_) (fun g29 => ?_)
      · refine K.seq ?_
        refine K.region ?_
        refine KO.q rfl (q_move rfl) ?_
        refine KO.q rfl (q_move rfl) ?_
        refine KO.q rfl (q_loadN ck_63 rfl rfl (by first | (apply cells_pv; (repeat (first | exact List.Mem.head _ | apply List.Mem.tail))) | (apply cells_fv; (repeat (first | exact List.Mem.head _ | apply List.Mem.tail))))) ?_
        refine KO.q rfl (q_ix (xs := M) i se_51 rfl rfl rfl isO (by repeat (first | exact List.Mem.head _ | apply List.Mem.tail)) hM.symm (by omega)) ?_
        refine KO.loudN rfl (l_storeEN e ck_63 rfl rfl (by repeat (first | exact Pick.here | apply Pick.there)) (by omega)) ?_
        rintro _ _ ⟨rfl, rfl⟩
        refine KO.done ?_
        refine K.region ?_
        refine KO.q rfl (q_move rfl) ?_
        refine KO.q rfl (q_add rfl rfl (by first | omega | (simp; omega)) (by first | omega | (simp; omega))) ?_
        refine KO.q rfl (q_assign rfl) ?_
        refine KO.done ?_
        refine K.inBlock ?_
        refine K.region ?_
        refine KO.q rfl (q_move rfl) ?_
        refine KO.q rfl (q_add rfl rfl (by first | omega | (simp; omega)) (by first | omega | (simp; omega))) ?_
        refine KO.q rfl (q_assign rfl) ?_
        refine KO.done ?_
        first
          | exact K.weak (by repeat (first | exact Env.sub_nil _ | refine Env.sub_cons rfl ?_)) (fun w h => h.fitD) (ih ⟨(i + 1, j + 1, M.set i e), by show i + 1 < j + 1; omega, by show j + 1 ≤ l.length; omega, by rw [List.length_set]; exact hM, by
              show (M.set i e).take (i + 1) = (l.take (j + 1)).filter _
              rw [hfs, if_neg (by simpa using g29), ← ht, List.take_add_one, List.take_set_of_le (Nat.le_refl i), List.getElem?_set_self (by omega)]
              rfl, by show (M.set i e).drop (j + 1) = l.drop (j + 1); rw [List.drop_set_of_lt (by omega), ← List.drop_drop, hd, List.drop_drop]⟩ (by show l.length - (j + 1) < l.length - j; omega))
          | exact K.weak (by repeat (first | exact Env.sub_nil _ | refine Env.sub_cons rfl ?_)) (fun w h => h.fitD) (ih ⟨(i, j + 1, M), by show i < j + 1; omega, by show j + 1 ≤ l.length; omega, hM, by show M.take i = (l.take (j + 1)).filter _; rw [hfs, if_pos (by simpa using g29), List.append_nil]; exact ht, by show M.drop (j + 1) = l.drop (j + 1); rw [← List.drop_drop, hd, List.drop_drop]⟩ (by show l.length - (j + 1) < l.length - j; omega))
      · refine K.skip <| K.inBlock ?_
        refine K.region ?_
        refine KO.q rfl (q_move rfl) ?_
        refine KO.q rfl (q_add rfl rfl (by first | omega | (simp; omega)) (by first | omega | (simp; omega))) ?_
        refine KO.q rfl (q_assign rfl) ?_
        refine KO.done ?_
        first
          | exact K.weak (by repeat (first | exact Env.sub_nil _ | refine Env.sub_cons rfl ?_)) (fun w h => h.fitD) (ih ⟨(i + 1, j + 1, M.set i e), by show i + 1 < j + 1; omega, by show j + 1 ≤ l.length; omega, by rw [List.length_set]; exact hM, by
              show (M.set i e).take (i + 1) = (l.take (j + 1)).filter _
              rw [hfs, if_neg (by simpa using g29), ← ht, List.take_add_one, List.take_set_of_le (Nat.le_refl i), List.getElem?_set_self (by omega)]
              rfl, by show (M.set i e).drop (j + 1) = l.drop (j + 1); rw [List.drop_set_of_lt (by omega), ← List.drop_drop, hd, List.drop_drop]⟩ (by show l.length - (j + 1) < l.length - j; omega))
          | exact K.weak (by repeat (first | exact Env.sub_nil _ | refine Env.sub_cons rfl ?_)) (fun w h => h.fitD) (ih ⟨(i, j + 1, M), by show i < j + 1; omega, by show j + 1 ≤ l.length; omega, hM, by show M.take i = (l.take (j + 1)).filter _; rw [hfs, if_pos (by simpa using g29), List.append_nil]; exact ht, by show M.drop (j + 1) = l.drop (j + 1); rw [← List.drop_drop, hd, List.drop_drop]⟩ (by show l.length - (j + 1) < l.length - j; omega))
    · obtain rfl : j = l.length := by omega
      rw [List.take_length] at ht
      have hlen : (l.filter (fun x => !p x)).length = i := by rw [← ht, List.length_take]; omega
      refine K.st (fun w h => rowO_take i (h.pick (by repeat (first | exact Pick.here | apply Pick.there)))) ?_
      rw [ht]
      refine K.exit rfl ?_
      refine K.seq ?_
      refine K.region ?_
      refine KO.q rfl (q_move rfl) ?_
      refine KO.q rfl (q_move rfl) ?_
      refine KO.q rfl (q_cutL se_51 rfl rfl (by first | omega | (simp; omega)) (by first | omega | (simp; omega)) (by first | omega | (simp; omega))) ?_
      refine KO.loudN rfl (l_clearS (i := i) Kd.e se_51 ze_63 rfl (by simp [Value.oneCell']) (by decide) rfl (by repeat (first | exact Pick.here | apply Pick.there)) (by omega) (by omega) (by simp only [Int.toNat_natCast]; omega)) ?_
      rintro _ _ ⟨rfl, rfl⟩
      refine KO.done ?_
      refine K.seq ?_
      refine K.region ?_
      refine KO.q rfl (q_move rfl) ?_
      refine KO.q rfl (q_move rfl) ?_
      refine KO.q rfl (q_cutH se_51 rfl rfl (by first | omega | (simp; omega)) (by first | omega | (simp; omega))) ?_
      refine KO.q rfl (q_assign rfl) ?_
      refine KO.done ?_
      refine K.ret (fn := Tryz.f36) Tryz.func36 (fun a w hk hs => res1 Tryz.results36 hk rfl) (fun w hs => ?_)
      first
        | exact ⟨_, [RowO Kd.e 63 q cap l, R], rfl, ⟨rfl, rfl⟩, hs.fitD⟩
        | exact ⟨_, [RowO Kd.e 63 q cap (l.filter (fun x => !p x)), R], rfl, ⟨by rw [hlen]; rfl, rfl⟩, hs.fitD⟩
theorem fr_none1 (es : List E) (hz : ∀ e ∈ es, e.k.size ≤ 1000000) (x : E) (hx : x ∈ es) : Fn Tryz.prog 37 [.agg x.cells.toArray].toArray [AllO LkE es] (fun v post => v = .bool (noneK x.k) ∧ post = [AllO LkE es]) := by
  obtain ⟨i, hi, he⟩ := List.mem_iff_getElem.1 hx
  have he : es[i]? = some x := by rw [List.getElem?_eq_getElem hi, he]
  have hez := hz x hx
  refine Fn.enter (N := 8) Tryz.func37 rfl Tryz.ntmps37 (by kernel_rfl) rfl (fun ρ L => ?_)
  refine K.seq ?_
  refine K.ex (fun w h => tb_open he (h.pick (by repeat (first | exact Pick.here | apply Pick.there)))) (fun bb => ?_)
  obtain ⟨bb, hbb⟩ := bb
  obtain ⟨nm, pp, k⟩ := x
  have hbb : pp = some bb := hbb
  subst hbb
  have hez : k.size ≤ 1000000 := hez
  refine K.region ?_
  refine KO.loud rfl (l_box rfl rfl) ?_
  rintro _ _ ⟨b1, rfl, rfl⟩
  refine KO.q rfl (q_assign rfl) ?_
  refine KO.done ?_
  refine K.seq ?_
  refine K.region ?_
  refine KO.q rfl (q_field fo_63_1 rfl) ?_
  refine KO.q rfl (q_load1D ck_61 rfl) ?_
  refine KO.loud rfl (OpL.callD rfl (h := lk_HoldsX bb k hez)) ?_
  rintro _ _ ⟨_, ⟨ph, ch, rfl, rfl⟩, rfl⟩
  refine KO.q rfl (q_len Tryz.underlying74 rfl) ?_
  refine KO.q rfl (q_eq rfl rfl) ?_
  refine KO.q rfl (q_assign rfl) ?_
  refine KO.done ?_
  refine K.ret (fn := Tryz.f37) Tryz.func37 (fun a w hk hs => res1 Tryz.results37 hk rfl) (fun w hs => ?_)
  exact ⟨_, [AllO LkE es], rfl, ⟨rfl, rfl⟩, tb_back he rfl (hs.fit (M := [LkX bb k, AllO LkE (es.eraseIdx i)]) (by repeat (first | exact Give.nil | (apply Give.perI; (repeat (first | exact List.Mem.head _ | apply List.Mem.tail))) | (apply Give.own; (repeat (first | exact Pick.here | apply Pick.there))))) (by repeat (first | exact Drop.refl | apply Drop.skip)))⟩
def mixE (who : Int) (es : List E) (i : Nat) : List E := (es.take i).map (drE who) ++ es.drop i
theorem mixE_at {who : Int} {es : List E} {i : Nat} {e : E} (h : es[i]? = some e) : (mixE who es i)[i]? = some e := by
  have hi := (List.getElem?_eq_some_iff.1 h).1
  unfold mixE
  rw [List.getElem?_append_right (by rw [List.length_map, List.length_take]; omega), List.length_map, List.length_take, Nat.min_eq_left (by omega), Nat.sub_self, List.getElem?_drop, Nat.add_zero, h]
theorem mixE_succ {who : Int} {es : List E} {i : Nat} {e : E} (h : es[i]? = some e) : mixE who es (i + 1) = (mixE who es i).set i (drE who e) := by
  have hi := (List.getElem?_eq_some_iff.1 h).1
  unfold mixE
  rw [map_take_succ _ h, List.set_append_right _ _ (by rw [List.length_map, List.length_take]; omega), List.length_map, List.length_take, Nat.min_eq_left (by omega), Nat.sub_self, List.drop_eq_getElem_cons hi, List.set_cons_zero, List.append_assoc]
  rfl
theorem mixE_len (who : Int) (es : List E) (i : Nat) : (mixE who es i).length = es.length := by
  unfold mixE
  rw [List.length_append, List.length_map, ← List.length_append, List.take_append_drop]
theorem mixE_end (who : Int) (es : List E) : mixE who es es.length = es.map (drE who) := by
  unfold mixE
  rw [List.take_length, List.drop_length, List.append_nil]
theorem map_dr_cells (who : Int) (es : List E) : es.map E.cells = (es.map (drE who)).map E.cells := by
  rw [List.map_map]
  exact List.map_congr_left fun e _ => (drE_cells who e).symm
theorem dr_size (who : Int) (e : E) (h : e.k.size ≤ 1000000) : (drE who e).k.size ≤ 1000000 := by
  unfold drE
  split
  · exact Nat.le_trans (e.k.drop_size who) h
  · exact h
theorem free_abs (es : List E) (n : Int) (who : Int) : es.flatMap (outE who) = (freeT (es.map E.abs) n who).1 ∧ ((es.map (drE who)).filter (fun e => !noneK e.k)).map E.abs = (freeT (es.map E.abs) n who).2.1 ∧ n - ((es.filter (fun e => e.k.mine who)).length : Int) = (freeT (es.map E.abs) n who).2.2 := by
  refine ⟨?_, ?_, ?_⟩
  · show _ = (es.map E.abs).flatMap (outT who)
    rw [List.flatMap_map]; rfl
  · show _ = ((es.map E.abs).map (drT who)).filter (fun e => !noneK e.k)
    rw [List.map_map, show drT who ∘ E.abs = E.abs ∘ drE who from funext fun e => (drE_abs who e).symm, ← List.map_map]
    exact (List.filter_map (p := fun e : Ent => !noneK e.k) (f := E.abs) (l := es.map (drE who))).symm
  · show _ = n - (((es.map E.abs).filter (fun e => e.k.mine who)).length : Int)
    rw [List.filter_map, List.length_map]
    rfl
set_option maxHeartbeats 6400000 in
theorem tb_Free (t : Nat) (n : Int) (q : Option Addr) (c : Nat) (es : List E) (who : Int) (hz : ∀ e ∈ es, e.k.size ≤ 1000000) (hl : es.length ≤ 1000000) (hn : 0 ≤ n ∧ n ≤ 1000000) (hp : (es.flatMap (outE who)).length ≤ 1000000000) : Fn Tryz.prog 10 [.pointer (some ⟨t, 0, none⟩), .int .i64 who].toArray (TbE t n q c es ++ [AllO LkE es]) (fun r post => ∃ po co es' q' c', r = .slice po (freeT (es.map E.abs) n who).1.length co ∧ es'.map E.abs = (freeT (es.map E.abs) n who).2.1 ∧ post = RowO (Kd.int .i64) 3 po co (freeT (es.map E.abs) n who).1 :: (TbE t (freeT (es.map E.abs) n who).2.2 q' c' es' ++ [AllO LkE es'])) := by
  refine Fn.enter (N := 48) Tryz.func10 rfl Tryz.ntmps10 (by kernel_rfl) rfl (fun ρ L => ?_)
  refine K.seq ?_
  refine K.fact (fun w h => rowO_cap (e := 63) (k := Kd.e) (p := q) (cap := c) (xs := es) (by repeat (first | exact List.Mem.head _ | apply List.Mem.tail)) w h) (fun hc2 => ?_)
  refine K.region ?_
  refine KO.q rfl (q_assign rfl) ?_
  refine KO.done ?_
  refine K.seq <| K.seq ?_
  refine K.region ?_
  refine KO.q rfl (q_move rfl) ?_
  refine KO.q rfl (q_pnil Tryz.underlying24 rfl rfl) ?_
  refine KO.done ?_
  refine K.no rfl ?_
  refine K.skip <| K.seq ?_
  refine K.region ?_
  refine KO.q rfl (q_assign rfl) ?_
  refine KO.done ?_
  refine K.seq <| K.seq ?_
  refine K.region ?_
  refine KO.q rfl (q_move rfl) ?_
  refine KO.q rfl (q_nilCheck rfl) ?_
  refine KO.q rfl (q_field fo_53_1 rfl) ?_
  refine KO.q rfl (q_load1D ck_51 rfl) ?_
  refine KO.q rfl (q_len Tryz.underlying51 rfl) ?_
  refine KO.q rfl (q_move rfl) ?_
  refine KO.done ?_
  refine K.block ?_
  refine K.rounds2 (ι := { s : Nat × Option Addr × Nat // s.1 ≤ es.length }) (fun s => [(17, .int .i64 s.1.1), (16, .int .i64 es.length), (15, .slice q es.length c), (5, .slice s.1.2.1 ((es.take s.1.1).flatMap (outE who)).length s.1.2.2), (0, .pointer (some ⟨t, 0, none⟩)), (1, .int .i64 who)]) (fun s => [RowO (Kd.int .i64) 3 s.1.2.1 s.1.2.2 ((es.take s.1.1).flatMap (outE who)), pv t 53 [.int .i64 (n - (((es.take s.1.1).filter (fun e => e.k.mine who)).length : Int)), .slice q es.length c], RowO Kd.e 63 q c es, AllO LkE (mixE who es s.1.1)] ++ L) (fun s => es.length - s.1.1) ⟨(0, none, 0), Nat.zero_le _⟩ (by repeat (first | exact Env.sub_nil _ | refine Env.sub_cons rfl ?_)) (fun w h => rowO_nil (k := Kd.int .i64) 3 (h.fit (M := [pv t 53 [.int .i64 (n - 0), .slice q es.length c], RowO Kd.e 63 q c es, AllO LkE es]) (by rw [Int.sub_zero]; exact (by repeat (first | exact Give.nil | (apply Give.perI; (repeat (first | exact List.Mem.head _ | apply List.Mem.tail))) | (apply Give.own; (repeat (first | exact Pick.here | apply Pick.there)))))) (by repeat (first | exact Drop.refl | apply Drop.skip)))) (fun s ih => ?_)
  obtain ⟨⟨i, po, co⟩, hi⟩ := s
  dsimp only at hi ⊢
  have hol := flatMap_take_le (outE who) es i
  have hcl : ((es.take i).filter (fun e => e.k.mine who)).length ≤ 1000000 := by
    have := List.length_filter_le (fun e : E => e.k.mine who) (es.take i)
    rw [List.length_take] at this
    omega
  obtain ⟨A, hA⟩ : ∃ A, A = (es.take i).flatMap (outE who) := ⟨_, rfl⟩
  obtain ⟨d, hd⟩ : ∃ d, d = ((es.take i).filter (fun e => e.k.mine who)).length := ⟨_, rfl⟩
  rw [← hA, ← hd]
  rw [← hA] at hol
  rw [← hd] at hcl
  refine K.seq ?_
  refine K.region ?_
  refine KO.q rfl (q_lt rfl rfl) ?_
  refine KO.done ?_
  refine K.seq ?_
  refine K.dcond (s := 18) rfl (fun g18 => ?_) (fun g18 => ?_)
  · obtain ⟨e, he⟩ : ∃ e, es[i]? = some e := ⟨_, List.getElem?_eq_getElem (by omega)⟩
    have hez := hz e (List.mem_of_getElem? he)
    have hme := mixE_at (who := who) he
    have hms := mixE_succ (who := who) he
    have hos := flatMap_take_succ (outE who) he
    have hfs := filter_take_succ (fun e : E => e.k.mine who) he
    rw [← hA] at hos
    have hil := (List.getElem?_eq_some_iff.1 he).1
    have hml := mixE_len who es i
    refine K.skip <| K.seq <| K.block <| K.seq ?_
    refine K.region ?_
    refine KO.q rfl (q_ix (xs := es) i se_51 rfl rfl rfl isO (by repeat (first | exact List.Mem.head _ | apply List.Mem.tail)) rfl (by omega)) ?_
    refine KO.q rfl (q_ldEN (xs := es) ck_63 rfl isO (by repeat (first | exact List.Mem.head _ | apply List.Mem.tail)) he) ?_
    refine KO.loud rfl (l_alloc zo_63) ?_
    rintro _ _ ⟨b7, rfl, rfl⟩
    refine KO.loudN rfl (l_storeAll ck_63 rfl rfl ⟨rfl, rfl⟩ (e_one _) (by repeat (first | exact Pick.here | apply Pick.there))) ?_
    rintro _ _ ⟨rfl, rfl⟩
    refine KO.done ?_
    refine K.seq ?_
    refine K.ex (fun w h => tb_open hme (h.pick (by repeat (first | exact Pick.here | apply Pick.there)))) (fun bb => ?_)
    obtain ⟨bb, hbb⟩ := bb
    obtain ⟨nm, pp, k⟩ := e
    have hbb : pp = some bb := hbb
    subst hbb
    have hez : k.size ≤ 1000000 := hez
    refine K.region ?_
    refine KO.q rfl (q_loadN ck_63 rfl rfl (by first | (apply cells_pv; (repeat (first | exact List.Mem.head _ | apply List.Mem.tail))) | (apply cells_fv; (repeat (first | exact List.Mem.head _ | apply List.Mem.tail))))) ?_
    refine KO.q rfl (q_move rfl) ?_
    refine KO.loud rfl (OpL.callD rfl (h := en_hold nm bb k who hez)) ?_
    rintro _ _ ⟨_, ⟨rfl, rfl⟩, rfl⟩
    refine KO.q rfl (q_move rfl) ?_
    refine KO.q rfl (q_extract rfl rfl) ?_
    refine KO.q rfl (q_extract rfl rfl) ?_
    refine KO.loud rfl (l_alloc zo_59) ?_
    rintro _ _ ⟨b8, rfl, rfl⟩
    refine KO.loudN rfl (l_storeAll ck_59 rfl rfl ⟨rfl, rfl⟩ (hold_one _) (by repeat (first | exact Pick.here | apply Pick.there))) ?_
    rintro _ _ ⟨rfl, rfl⟩
    refine KO.q rfl (q_assign rfl) ?_
    refine KO.done ?_
    refine K.seq ?_
    refine K.region ?_
    refine KO.q rfl (q_move rfl) ?_
    refine KO.done ?_
    first | refine K.dcond (s := 27) rfl (fun g27 => ?_) (fun g27 => ?_) | refine K.bcond (s := 27) rfl (fun g27 => ?_) (fun g27 => ?_)
    · have hmi : k.mine who = true := decide_eq_true g27
      have hd1 : drE who ⟨nm, some bb, k⟩ = ⟨nm, some bb, (k.drop who).2⟩ := if_pos hmi
      have ho1 : outE who ⟨nm, some bb, k⟩ = (k.drop who).1 := if_pos hmi
      have hf1 : ((es.take (i + 1)).filter (fun e => e.k.mine who)).length = d + 1 := by
        rw [hfs, if_pos hmi, List.length_append, ← hd]; rfl
      rw [ho1] at hos
      rw [hd1] at hms
      have hdo := k.drop_out who
      refine K.seq ?_
      refine K.region ?_
      refine KO.q rfl (q_move rfl) ?_
      refine KO.q rfl (q_field fo_63_1 rfl) ?_
      refine KO.q rfl (q_load1D ck_61 rfl) ?_
      refine KO.q rfl (q_move rfl) ?_
      refine KO.loud rfl (OpL.callD rfl (h := lk_DropX bb k who hez)) ?_
      rintro _ _ ⟨_, ⟨pd, cd, rfl, rfl⟩, rfl⟩
      refine KO.loud rfl (l_append (Kd.int .i64) (ys := (k.drop who).1) se_39 Tryz.underlying39 ⟨_, ze_3, rfl⟩ (by decide) rfl rfl (by repeat (first | exact Pick.here | apply Pick.there)) isO (by repeat (first | exact List.Mem.head _ | apply List.Mem.tail)) rfl rfl (by show (2 * (A.length + (k.drop who).1.length) + 768) * 8 ≤ _; omega)) ?_
      rintro _ _ ⟨pn, dn, rfl, rfl⟩
      refine KO.q rfl (q_assign rfl) ?_
      refine KO.done ?_
      refine K.region ?_
      refine KO.q rfl (q_move rfl) ?_
      refine KO.q rfl (q_nilCheck rfl) ?_
      refine KO.q rfl (q_field fo_53_0 rfl) ?_
      refine KO.loud rfl (OpL.callD rfl (h := tb_moved t (n - (d : Int)) (-1) (.slice q es.length c) (by omega) (by decide))) ?_
      rintro _ _ ⟨_, ⟨rfl, rfl⟩, rfl⟩
      refine KO.done ?_
      refine K.inBlock ?_
      refine K.region ?_
      refine KO.q rfl (q_add rfl rfl (by first | omega | (simp; omega)) (by first | omega | (simp; omega))) ?_
      refine KO.q rfl (q_move rfl) ?_
      refine KO.done ?_
      exact K.weak (E' := [(17, .int .i64 ((i + 1 : Nat) : Int)), (16, .int .i64 es.length), (15, .slice q es.length c), (5, .slice pn ((es.take (i + 1)).flatMap (outE who)).length dn), (0, .pointer (some ⟨t, 0, none⟩)), (1, .int .i64 who)]) (by rw [hos]; exact (by repeat (first | exact Env.sub_nil _ | refine Env.sub_cons rfl ?_))) (fun w h => by rw [hos, hf1, hms, show n - ((d + 1 : Nat) : Int) = n - (d : Int) + -1 by omega]; exact (tb_close (e := ⟨nm, some bb, (k.drop who).2⟩) rfl (by rw [hml]; exact hil) (h.fit (M := [LkX bb (k.drop who).2, AllO LkE ((mixE who es i).eraseIdx i), RowO (Kd.int .i64) 3 pn dn (A ++ (k.drop who).1), pv t 53 [.int .i64 (n - (d : Int) + -1), .slice q es.length c], RowO Kd.e 63 q c es]) (by repeat (first | exact Give.nil | (apply Give.perI; (repeat (first | exact List.Mem.head _ | apply List.Mem.tail))) | (apply Give.own; (repeat (first | exact Pick.here | apply Pick.there))))) (by repeat (first | exact Drop.refl | apply Drop.skip)))).fitD) (ih ⟨(i + 1, pn, dn), by show i + 1 ≤ _; omega⟩ (by show es.length - (i + 1) < es.length - i; omega))
    · have hmi : ¬ k.mine who = true := fun h => g27 (of_decide_eq_true h)
      have hd1 : drE who ⟨nm, some bb, k⟩ = ⟨nm, some bb, k⟩ := if_neg hmi
      have ho1 : outE who ⟨nm, some bb, k⟩ = [] := if_neg hmi
      have hf1 : ((es.take (i + 1)).filter (fun e => e.k.mine who)).length = d := by
        rw [hfs, if_neg hmi, List.append_nil, ← hd]
      rw [ho1, List.append_nil] at hos
      rw [hd1, set_self hme] at hms
      refine K.st (fun w h => tb_back hme rfl (h.fit (M := [LkX bb k, AllO LkE ((mixE who es i).eraseIdx i), pv t 53 [.int .i64 (n - (d : Int)), .slice q es.length c], RowO Kd.e 63 q c es, RowO (Kd.int .i64) 3 po co A]) (by repeat (first | exact Give.nil | (apply Give.perI; (repeat (first | exact List.Mem.head _ | apply List.Mem.tail))) | (apply Give.own; (repeat (first | exact Pick.here | apply Pick.there))))) (by repeat (first | exact Drop.refl | apply Drop.skip)))) ?_
      refine K.skip <| K.inBlock ?_
      refine K.region ?_
      refine KO.q rfl (q_add rfl rfl (by first | omega | (simp; omega)) (by first | omega | (simp; omega))) ?_
      refine KO.q rfl (q_move rfl) ?_
      refine KO.done ?_
      exact K.weak (E' := [(17, .int .i64 ((i + 1 : Nat) : Int)), (16, .int .i64 es.length), (15, .slice q es.length c), (5, .slice po ((es.take (i + 1)).flatMap (outE who)).length co), (0, .pointer (some ⟨t, 0, none⟩)), (1, .int .i64 who)]) (by rw [hos]; exact (by repeat (first | exact Env.sub_nil _ | refine Env.sub_cons rfl ?_))) (fun w h => by rw [hos, hf1, hms]; exact h.fitD) (ih ⟨(i + 1, po, co), by show i + 1 ≤ _; omega⟩ (by show es.length - (i + 1) < es.length - i; omega))
  · obtain rfl : i = es.length := by omega
    rw [mixE_end]
    rw [List.take_length] at hA hd
    clear ih
    obtain ⟨F, hF⟩ : ∃ F, F = es.map (drE who) := ⟨_, rfl⟩
    have hFl : F.length = es.length := by rw [hF, List.length_map]
    have hFc : es.map E.cells = F.map E.cells := by rw [hF]; exact map_dr_cells who es
    have hFz : ∀ e ∈ F, e.k.size ≤ 1000000 := fun e he => by
      rw [hF] at he
      obtain ⟨e0, h0, rfl⟩ := List.mem_map.1 he
      exact dr_size who e0 (hz e0 h0)
    obtain ⟨h1, h2, h3⟩ := free_abs es n who
    rw [← hA] at h1
    rw [← hd] at h3
    rw [← hF] at h2 ⊢
    rw [← h1, ← h3]
    refine K.st (fun w h => rowO_cells (hl := e_sz) (h1 := e_one) hFc (h.pick (by repeat (first | exact Pick.here | apply Pick.there)))) ?_
    rw [← hFl]
    rw [← hFl] at hc2 hl
    refine K.exit rfl ?_
    refine K.seq ?_
    refine K.region ?_
    refine KO.q rfl (q_move rfl) ?_
    refine KO.q rfl (q_move rfl) ?_
    refine KO.q rfl (q_nilCheck rfl) ?_
    refine KO.q rfl (q_field fo_53_1 rfl) ?_
    refine KO.q rfl (q_load1D ck_51 rfl) ?_
    refine KO.loud rfl (OpL.callD rfl (h := delf_e (AllO LkE F) q c F 37 [] (fun e => noneK e.k) hc2 (by omega) (fun x hx => fr_none1 F hFz x hx))) ?_
    rintro _ _ ⟨_, ⟨rfl, rfl⟩, rfl⟩
    refine KO.q rfl (q_nilCheck rfl) ?_
    refine KO.q rfl (q_field fo_53_1 rfl) ?_
    refine KO.loudN rfl (l_store1 ck_51 rfl rfl rfl (by repeat (first | exact Pick.here | apply Pick.there)) (by repeat (first | exact SetAt.here | apply SetAt.there))) ?_
    rintro _ _ ⟨rfl, rfl⟩
    refine KO.done ?_
    refine K.seq ?_
    refine K.region ?_
    refine KO.q rfl (q_move rfl) ?_
    refine KO.q rfl (q_assign rfl) ?_
    refine KO.done ?_
    refine K.ret (fn := Tryz.f10) Tryz.func10 (fun a w hk hs => res1 Tryz.results10 hk rfl) (fun w hs => ?_)
    exact ⟨_, RowO (Kd.int .i64) 3 po co A :: (TbE t (n - (d : Int)) q c (F.filter (fun e => !noneK e.k)) ++ [AllO LkE (F.filter (fun e => !noneK e.k))]), rfl, ⟨po, co, F.filter (fun e => !noneK e.k), q, c, rfl, h2, rfl⟩, (allO_filter (fun e => !noneK e.k) (hs.fit (M := [AllO LkE F, RowO (Kd.int .i64) 3 po co A, pv t 53 [.int .i64 (n - (d : Int)), .slice q (F.filter (fun e => !noneK e.k)).length c], RowO Kd.e 63 q c (F.filter (fun e => !noneK e.k))]) (by repeat (first | exact Give.nil | (apply Give.perI; (repeat (first | exact List.Mem.head _ | apply List.Mem.tail))) | (apply Give.own; (repeat (first | exact Pick.here | apply Pick.there))))) (by repeat (first | exact Drop.refl | apply Drop.skip)))).fitD⟩
end Go.Proofs.YtcpkcjabmookmaaGreat.L
