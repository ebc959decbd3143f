/- Walks: changes done in turn, all or none. -/
import Derived.Test.YthnmoiilaaoooaaGreatE7
import Derived.Test.YthnmoiilaaoooaaGreatPT2
namespace Go.Proofs.YthnmoiilaaoooaaGreat.L
open Go Go.Proofs
attribute [local irreducible] pv fv pt fz RowF RowO rowP old pure_ elA
set_option maxRecDepth 100000
set_option linter.unusedSimpArgs false
set_option linter.unusedVariables false

theorem Oz.ok_of {o : Oz} {n : Nat} (h : o.x.small n) (hc : o.cap) : o.ok := ⟨h.1, hc⟩
theorem Oz.le_of {o : Oz} {n m : Nat} (h : o.x.small n) (hm : n ≤ m) : o.le m := ⟨by have := h.2.1; omega, by have := h.2.2.1; omega, by have := h.2.2.2; omega⟩
theorem Stt.small.oz {s : Sz} {n : Nat} (h : s.st.small n) {o : Oz} (ho : o ∈ s.l) : o.x.small n := h.obs o.x (List.mem_map_of_mem ho)
theorem Sz.len_of {s : Sz} {n : Nat} (h : s.st.small n) : s.l.length ≤ 1000000000 := by
  have := h.len
  rwa [show s.st.objs.length = s.l.length from List.length_map _] at this
theorem Sz.ok_of {s : Sz} {n : Nat} (h : s.st.small n) (hc : s.l.length ≤ s.c) (hcap : ∀ o ∈ s.l, o.cap) : s.ok :=
  ⟨h.nx, by have := Sz.len_of h; omega, hc, fun o ho => Oz.ok_of (h.oz ho) (hcap o ho)⟩
theorem Sz.few_of {s : Sz} {n : Nat} (h : s.st.small n) (hn : n ≤ 1000000000) : s.few := fun o ho => by
  have := h.oz ho
  have h2 := this.2.2.1
  have h3 := this.2.2.2
  omega
/-- A state that is small, and the room of its rows. -/
structure Sz.good (s : Sz) (n : Nat) : Prop where
  sm : s.st.small n
  room : s.l.length ≤ s.c
  cap : ∀ o ∈ s.l, o.cap
theorem Sz.zero_good (n : Nat) : Sz.good ⟨0, none, 0, []⟩ n := ⟨⟨(by decide), (by decide), fun o ho => by cases ho⟩, Nat.le_refl _, fun o ho => by cases ho⟩
theorem doAll_step {s : Stt} {e : Eff} {l : List Eff} (h : (doS s e).2 = 0) : doAll s (e :: l) = doAll (doS s e).1 l := by rw [doAll, if_pos h]
theorem doAll_stop {s : Stt} {e : Eff} {l : List Eff} (h : ¬ (doS s e).2 = 0) : doAll s (e :: l) = (⟨0, []⟩, (doS s e).2) := by rw [doAll, if_neg h]
set_option maxHeartbeats 3200000 in
theorem st_Apply (A : HP) (s : Sz) (n : Nat) (qe : Option Addr) (ce : Nat) (l : List Eff) (hA : IsRow A Kd.eff qe l) (hs : s.good n) (hn : n + l.length ≤ 100000000) : Fn Tryz.prog 31 [.agg s.cells.toArray, .slice qe l.length ce].toArray (A :: StL s)
    (fun r post => ∃ s' : Sz, r = .tuple #[.agg s'.cells.toArray, .int .i64 (applyS s.st l).2] ∧ s'.st = (applyS s.st l).1 ∧ post = A :: StL s' ∧ s'.good (n + l.length)) := by
  have hok := Sz.ok_of hs.sm hs.room hs.cap
  have hfew := Sz.few_of hs.sm (by omega)
  have hlen := Sz.len_of hs.sm
  have hle : ∀ o ∈ s.l, o.le 1000000000 := fun o ho => Oz.le_of (hs.sm.oz ho) (by omega)
  refine Fn.enter (N := 29) Tryz.func31 rfl Tryz.ntmps31 (by kernel_rfl) rfl (fun ρ L => ?_)
  refine K.seq ?_
  refine K.region ?_
  refine KO.loud rfl (l_box rfl rfl) ?_
  rintro _ _ ⟨b2, rfl, rfl⟩
  refine KO.loud rfl (l_alloc zo_24) ?_
  rintro _ _ ⟨b4, rfl, rfl⟩
  refine KO.q rfl (q_assign rfl) ?_
  refine KO.done ?_
  refine K.seq <| K.seq ?_
  refine K.region ?_
  refine KO.q rfl (q_loadN ck_24 rfl rfl (by first | (apply cells_pv; (repeat (first | exact List.Mem.head _ | apply List.Mem.tail))) | (apply cells_fv; (repeat (first | exact List.Mem.head _ | apply List.Mem.tail))))) ?_
  refine KO.loud rfl (OpL.callD rfl (h := st_Right _ (by assumption) (by assumption))) ?_
  rintro _ _ ⟨_, ⟨rfl, rfl⟩, rfl⟩
  refine KO.q rfl (q_not rfl) ?_
  refine KO.done ?_
  refine K.bcond (s := 11) rfl (fun g11 => ?_) (fun g11 => ?_)
  · have hr : s.st.right = false := by simpa using g11
    have hap : applyS s.st l = (⟨0, []⟩, 1) := by unfold applyS; rw [if_pos hr]
    refine K.seq ?_
    refine K.region ?_
    refine KO.q rfl (q_as_sz (l_ := []) (q_build st_24 rfl (by repeat (first | exact Fill.nil | (apply Fill.cons; rfl; rfl; rfl) | exact SetN.nil | apply SetN.cons | exact SetAt.here | apply SetAt.there))) rfl) ?_
    refine KO.loudN rfl (l_storeAll ck_24 rfl rfl ⟨rfl, rfl⟩ (sz_one _) (by repeat (first | exact Pick.here | apply Pick.there))) ?_
    rintro _ _ ⟨rfl, rfl⟩
    refine KO.q rfl (q_assign rfl) ?_
    refine KO.done ?_
    refine K.ret (fn := Tryz.f31) Tryz.func31 (fun a w hk hs => resCT Tryz.results31 hk rfl ck_24 rfl (cells_pv (by repeat (first | exact List.Mem.head _ | apply List.Mem.tail)) w hs) rfl) (fun w hs => ?_)
    rw [hap]
    exact ⟨_, A :: StL ⟨0, none, 0, []⟩, rfl, ⟨⟨0, none, 0, []⟩, rfl, rfl, rfl, Sz.zero_good _⟩, (nestF_nil (rowF_nilA (k := Kd.oz) (hs.fit (M := [A]) (by repeat (first | exact Give.nil | (apply Give.perI; (repeat (first | exact List.Mem.head _ | apply List.Mem.tail))) | (apply Give.own; (repeat (first | exact Pick.here | apply Pick.there))))) (by repeat (first | exact Drop.refl | apply Drop.skip))))).fitD⟩
  · have hr : ¬ s.st.right = false := by simpa using g11
    have hap : applyS s.st l = doAll s.st l := by unfold applyS; rw [if_neg hr]
    rw [hap]
    refine K.skip <| K.seq ?_
    refine K.region ?_
    refine KO.q rfl (q_loadN ck_24 rfl rfl (by first | (apply cells_pv; (repeat (first | exact List.Mem.head _ | apply List.Mem.tail))) | (apply cells_fv; (repeat (first | exact List.Mem.head _ | apply List.Mem.tail))))) ?_
    refine KO.loud rfl (OpL.callD rfl (h := st_CloneO s hlen hle)) ?_
    rintro _ _ ⟨_, ⟨q', c', l', rfl, rfl, hm, hlc, hcap⟩, rfl⟩
    refine KO.st (fun w h => allO_freeze (h.pick (by repeat (first | exact Pick.here | apply Pick.there)))) ?_
    refine KO.loudN rfl (l_storeAll ck_24 rfl rfl ⟨rfl, rfl⟩ (sz_one _) (by repeat (first | exact Pick.here | apply Pick.there))) ?_
    rintro _ _ ⟨rfl, rfl⟩
    refine KO.done ?_
    refine K.seq <| K.seq ?_
    have hst0 : Sz.st ⟨s.next, q', c', l'⟩ = s.st := by unfold Sz.st; dsimp only; rw [hm]
    refine K.region ?_
    refine KO.q rfl (q_move rfl) ?_
    refine KO.q rfl (q_len Tryz.underlying81 rfl) ?_
    refine KO.q rfl (q_move rfl) ?_
    refine KO.done ?_
    refine K.block ?_
    refine K.rounds2 (ι := { x : Nat × Sz // x.1 ≤ l.length ∧ doAll s.st l = doAll x.2.st (l.drop x.1) ∧ x.2.good (n + x.1) }) (fun x => [(17, .int .i64 x.1.1), (16, .int .i64 l.length), (15, .slice qe l.length ce), (2, .pointer (some ⟨b2, 0, none⟩)), (4, .pointer (some ⟨b4, 0, none⟩))]) (fun x => StO b2 x.1.2 ++ [A, pv b4 24 [.int .i64 0, .slice none 0 0]] ++ L) (fun x => l.length - x.1.1) ⟨(0, ⟨s.next, q', c', l'⟩), Nat.zero_le _, by rw [hst0]; rfl, ⟨by rw [hst0]; exact hs.sm, hlc, hcap⟩⟩ (by repeat (first | exact Env.sub_nil _ | refine Env.sub_cons rfl ?_)) (fun w h => h.fitD) (fun x ih => ?_)
    obtain ⟨⟨i, sx⟩, hi, hd, hg⟩ := x
    dsimp only at hi hd hg ⊢
    refine K.seq ?_
    refine K.region ?_
    refine KO.q rfl (q_lt rfl rfl) ?_
    refine KO.done ?_
    refine K.seq ?_
    refine K.dcond (s := 18) rfl (fun g18 => ?_) (fun g18 => ?_)
    · obtain ⟨e, he⟩ : ∃ e, l[i]? = some e := ⟨_, List.getElem?_eq_getElem (by omega)⟩
      have hdr : l.drop i = e :: l.drop (i + 1) := by
        obtain ⟨h1, h2⟩ := List.getElem?_eq_some_iff.1 he
        rw [← h2, List.getElem_cons_drop h1]
      have hgl := Sz.len_of hg.sm
      have hgle : ∀ o ∈ sx.l, o.le 1000000000 := fun o ho => Oz.le_of (hg.sm.oz ho) (by omega)
      have hgr : ∀ o ∈ sx.l, ∀ m ∈ o.x.msgs, -9223372036854775808 ≤ m.retry := fun o ho m hm => ((hg.sm.oz ho).1.2.2.2.2.1 m hm).2.2.1.1
      have hsm := doS_small (n := n + i) (by omega) hg.sm e
      refine K.skip <| K.seq <| K.block <| K.seq ?_
      refine K.region ?_
      refine KO.q rfl (q_ix (xs := l) i se_81 rfl rfl rfl hA (by repeat (first | exact List.Mem.head _ | apply List.Mem.tail)) rfl (by omega)) ?_
      refine KO.q rfl (q_ldEN (xs := l) (enc := Eff.cells) ck_80 rfl hA (by repeat (first | exact List.Mem.head _ | apply List.Mem.tail)) he) ?_
      refine KO.loud rfl (l_alloc zo_80) ?_
      rintro _ _ ⟨b7, rfl, rfl⟩
      refine KO.loudN rfl (l_storeAll ck_80 rfl rfl ⟨rfl, rfl⟩ (eff_one _) (by repeat (first | exact Pick.here | apply Pick.there))) ?_
      rintro _ _ ⟨rfl, rfl⟩
      refine KO.done ?_
      refine K.seq ?_
      refine K.region ?_
      refine KO.q rfl (q_loadN ck_80 rfl rfl (by first | (apply cells_pv; (repeat (first | exact List.Mem.head _ | apply List.Mem.tail))) | (apply cells_fv; (repeat (first | exact List.Mem.head _ | apply List.Mem.tail))))) ?_
      refine KO.loud rfl (OpL.callD rfl (h := st_do b2 sx e hg.room hgl hgle hg.cap hgr)) ?_
      rintro _ _ ⟨_, ⟨s', rfl, hs1, rfl, hs2, hs3⟩, rfl⟩
      refine KO.q rfl (q_assign rfl) ?_
      refine KO.done ?_
      refine K.seq ?_
      refine K.region ?_
      refine KO.q rfl (q_move rfl) ?_
      refine KO.q rfl (q_ne rfl rfl) ?_
      refine KO.done ?_
      refine K.dcond (s := 24) rfl (fun g24 => ?_) (fun g24 => ?_)
      · have hfin : doAll sx.st (l.drop i) = (⟨0, []⟩, (doS sx.st e).2) := by rw [hdr]; exact doAll_stop g24
        refine K.seq ?_
        refine K.region ?_
        refine KO.q rfl (q_as_sz (l_ := []) (q_build st_24 rfl (by repeat (first | exact Fill.nil | (apply Fill.cons; rfl; rfl; rfl) | exact SetN.nil | apply SetN.cons | exact SetAt.here | apply SetAt.there))) rfl) ?_
        refine KO.q rfl (q_move rfl) ?_
        refine KO.loudN rfl (l_storeAll ck_24 rfl rfl ⟨rfl, rfl⟩ (sz_one _) (by repeat (first | exact Pick.here | apply Pick.there))) ?_
        rintro _ _ ⟨rfl, rfl⟩
        refine KO.q rfl (q_assign rfl) ?_
        refine KO.done ?_
        refine K.ret (fn := Tryz.f31) Tryz.func31 (fun a w hk hs => resCT Tryz.results31 hk rfl ck_24 rfl (cells_pv (by repeat (first | exact List.Mem.head _ | apply List.Mem.tail)) w hs) rfl) (fun w hs => ?_)
        rw [hd, hfin]
        exact ⟨_, A :: StL ⟨0, none, 0, []⟩, rfl, ⟨⟨0, none, 0, []⟩, rfl, rfl, rfl, Sz.zero_good _⟩, (nestF_nil (rowF_nilA (k := Kd.oz) (hs.fit (M := [A]) (by repeat (first | exact Give.nil | (apply Give.perI; (repeat (first | exact List.Mem.head _ | apply List.Mem.tail))) | (apply Give.own; (repeat (first | exact Pick.here | apply Pick.there))))) (by repeat (first | exact Drop.refl | apply Drop.skip))))).fitD⟩
      · have hfin : doAll sx.st (l.drop i) = doAll s'.st (l.drop (i + 1)) := by rw [hdr, hs1]; exact doAll_step (Decidable.not_not.1 g24)
        refine K.skip <| K.inBlock ?_
        refine K.region ?_
        refine KO.q rfl (q_add rfl rfl (by first | omega | (simp; omega)) (by first | omega | (simp; omega))) ?_
        refine KO.q rfl (q_move rfl) ?_
        refine KO.done ?_
        exact K.weak (by repeat (first | exact Env.sub_nil _ | refine Env.sub_cons rfl ?_)) (fun w h => h.fitD) (ih ⟨(i + 1, s'), by show i + 1 ≤ _; omega, by show doAll s.st l = doAll s'.st (l.drop (i + 1)); rw [hd, hfin], ⟨by rw [hs1, show n + (i + 1) = n + i + 1 by omega]; exact hsm, hs2, hs3⟩⟩ (by show l.length - (i + 1) < l.length - i; omega))
    · obtain rfl : i = l.length := by omega
      have hfin : doAll sx.st (l.drop l.length) = (sx.st, 0) := by rw [List.drop_length]; rfl
      clear ih
      refine K.exit rfl ?_
      refine K.seq ?_
      refine K.region ?_
      refine KO.q rfl (q_loadN ck_24 rfl rfl (by first | (apply cells_pv; (repeat (first | exact List.Mem.head _ | apply List.Mem.tail))) | (apply cells_fv; (repeat (first | exact List.Mem.head _ | apply List.Mem.tail))))) ?_
      refine KO.loudN rfl (l_storeAll ck_24 rfl rfl ⟨rfl, rfl⟩ (sz_one _) (by repeat (first | exact Pick.here | apply Pick.there))) ?_
      rintro _ _ ⟨rfl, rfl⟩
      refine KO.q rfl (q_assign rfl) ?_
      refine KO.done ?_
      refine K.ret (fn := Tryz.f31) Tryz.func31 (fun a w hk hs => resCT Tryz.results31 hk rfl ck_24 rfl (cells_pv (by repeat (first | exact List.Mem.head _ | apply List.Mem.tail)) w hs) rfl) (fun w hs => ?_)
      rw [hd, hfin]
      exact ⟨_, A :: StL sx, rfl, ⟨sx, rfl, rfl, rfl, hg⟩, ((rowO_freeze (e := 33) (cap := sx.c) (k := Kd.oz) (p := sx.q) (xs := sx.l) (hs.pick (by repeat (first | exact Pick.here | apply Pick.there)))).fit (M := A :: StL sx) (by repeat (first | exact Give.nil | (apply Give.perI; (repeat (first | exact List.Mem.head _ | apply List.Mem.tail))) | (apply Give.own; (repeat (first | exact Pick.here | apply Pick.there))))) (by repeat (first | exact Drop.refl | apply Drop.skip)))⟩
end Go.Proofs.YthnmoiilaaoooaaGreat.L
