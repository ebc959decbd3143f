/- Walks: what one change makes of a state: objects found, made, their rows and messages turned. -/
import Derived.Test.YthnmoiilaaoooaaGreatE3
namespace Go.Proofs.YthnmoiilaaoooaaGreat.L
open Go Go.Proofs
attribute [local irreducible] pv fv pt fz RowF RowO rowP old pure_ elA
set_option maxRecDepth 100000
set_option linter.unusedSimpArgs false
set_option linter.unusedVariables false

theorem idxP_map {α β : Type} (p : β → Bool) (f : α → β) (l : List α) : idxP p (l.map f) = idxP (fun x => p (f x)) l := by
  unfold idxP
  rw [List.findIdx?_map]
  rfl
abbrev StO (b : Nat) (s : Sz) : List HP := [pv b 24 s.cells, RowO Kd.oz 33 s.q s.c s.l, NestF s.l]
--%call poste/state.told := st_told _ _
theorem st_told (ok : Bool) (n : Int) : Fn Tryz.prog 80 [.bool ok, .int .i64 n].toArray [] (fun r post => r = .int .i64 (if ok = true then 0 else n) ∧ post = []) := by
  refine Fn.enter (N := 7) Tryz.func80 rfl Tryz.ntmps80 (by kernel_rfl) rfl (fun ρ L => ?_)
  refine K.seq ?_
  refine K.region ?_
  refine KO.q rfl (q_assign rfl) ?_
  refine KO.done ?_
  refine K.seq <| K.seq ?_
  refine K.region ?_
  refine KO.q rfl (q_move rfl) ?_
  refine KO.done ?_
  first | refine K.dcond (s := 5) rfl (fun g5 => ?_) (fun g5 => ?_) | refine K.bcond (s := 5) rfl (fun g5 => ?_) (fun g5 => ?_)
  · rw [if_pos (by simpa using g5)]
    refine K.seq ?_
    refine K.region ?_
    refine KO.q rfl (q_assign rfl) ?_
    refine KO.done ?_
    refine K.ret (fn := Tryz.f80) Tryz.func80 (fun a w hk hs => res1 Tryz.results80 hk rfl) (fun w hs => ?_)
    exact ⟨_, [], rfl, ⟨rfl, rfl⟩, hs.fitD⟩
  · rw [if_neg (by simpa using g5)]
    refine K.skip <| K.seq ?_
    refine K.region ?_
    refine KO.q rfl (q_move rfl) ?_
    refine KO.q rfl (q_assign rfl) ?_
    refine KO.done ?_
    refine K.ret (fn := Tryz.f80) Tryz.func80 (fun a w hk hs => res1 Tryz.results80 hk rfl) (fun w hs => ?_)
    exact ⟨_, [], rfl, ⟨rfl, rfl⟩, hs.fitD⟩
theorem st_next (b : Nat) (s : Sz) (n : Int) : Fn Tryz.prog 52 [.pointer (some ⟨b, 0, none⟩), .int .i64 n].toArray (StO b s) (fun r post => ∃ s' : Sz, r = .int .i64 (nextS s.st n).2 ∧ s'.st = (nextS s.st n).1 ∧ s'.q = s.q ∧ s'.c = s.c ∧ s'.l = s.l ∧ post = StO b s') := by
  obtain ⟨nx, q, c, l⟩ := s
  refine Fn.enter (N := 15) Tryz.func52 rfl Tryz.ntmps52 (by kernel_rfl) rfl (fun ρ L => ?_)
  refine K.seq ?_
  refine K.region ?_
  refine KO.q rfl (q_assign rfl) ?_
  refine KO.done ?_
  refine K.seq <| K.seq ?_
  refine K.region ?_
  refine KO.q rfl (q_move rfl) ?_
  refine KO.q rfl (q_move rfl) ?_
  refine KO.q rfl (q_nilCheck rfl) ?_
  refine KO.q rfl (q_field fo_24_0 rfl) ?_
  refine KO.q rfl (q_load1D ck_3 rfl) ?_
  refine KO.q rfl (q_lt rfl rfl) ?_
  refine KO.done ?_
  refine K.dcond (s := 10) rfl (fun g10 => ?_) (fun g10 => ?_)
  · have hr : nextS (Sz.st ⟨nx, q, c, l⟩) n = (Sz.st ⟨nx, q, c, l⟩, 1) := by unfold nextS; rw [if_pos (show n < (Sz.st ⟨nx, q, c, l⟩).next from g10)]
    refine K.seq ?_
    refine K.region ?_
    refine KO.q rfl (q_assign rfl) ?_
    refine KO.done ?_
    refine K.ret (fn := Tryz.f52) Tryz.func52 (fun a w hk hs => res1 Tryz.results52 hk rfl) (fun w hs => ?_)
    rw [hr]
    first
      | exact ⟨_, StO b ⟨nx, q, c, l⟩, rfl, ⟨⟨nx, q, c, l⟩, rfl, rfl, rfl, rfl, rfl, rfl⟩, hs.fitD⟩
      | exact ⟨_, StO b ⟨n, q, c, l⟩, rfl, ⟨⟨n, q, c, l⟩, rfl, rfl, rfl, rfl, rfl, rfl⟩, hs.fitD⟩
  · have hr : nextS (Sz.st ⟨nx, q, c, l⟩) n = (Sz.st ⟨n, q, c, l⟩, 0) := by unfold nextS; rw [if_neg (show ¬ n < (Sz.st ⟨nx, q, c, l⟩).next from g10)]; rfl
    refine K.skip <| K.seq ?_
    refine K.region ?_
    refine KO.q rfl (q_move rfl) ?_
    refine KO.q rfl (q_move rfl) ?_
    refine KO.q rfl (q_nilCheck rfl) ?_
    refine KO.q rfl (q_field fo_24_0 rfl) ?_
    refine KO.loudN rfl (l_store1 ck_3 rfl rfl rfl (by repeat (first | exact Pick.here | apply Pick.there)) (by repeat (first | exact SetAt.here | apply SetAt.there))) ?_
    rintro _ _ ⟨rfl, rfl⟩
    refine KO.done ?_
    refine K.seq ?_
    refine K.region ?_
    refine KO.q rfl (q_assign rfl) ?_
    refine KO.done ?_
    refine K.ret (fn := Tryz.f52) Tryz.func52 (fun a w hk hs => res1 Tryz.results52 hk rfl) (fun w hs => ?_)
    rw [hr]
    first
      | exact ⟨_, StO b ⟨nx, q, c, l⟩, rfl, ⟨⟨nx, q, c, l⟩, rfl, rfl, rfl, rfl, rfl, rfl⟩, hs.fitD⟩
      | exact ⟨_, StO b ⟨n, q, c, l⟩, rfl, ⟨⟨n, q, c, l⟩, rfl, rfl, rfl, rfl, rfl, rfl⟩, hs.fitD⟩
theorem sf1 (l : List Oz) (b : Nat) (name : ByteArray) (x : Oz) : Fn Tryz.prog 79 [.agg x.cells.toArray, .pointer (some ⟨b, 0, none⟩)].toArray [pv b 9 [.string name], NestF l] (fun v post => v = .bool (decide (x.x.name = name)) ∧ post = [pv b 9 [.string name]]) := by
  refine Fn.enter (N := 8) Tryz.func79 rfl Tryz.ntmps79 (by kernel_rfl) rfl (fun ρ L => ?_)
  refine K.seq ?_
  refine K.region ?_
  refine KO.loud rfl (l_box rfl rfl) ?_
  rintro _ _ ⟨b2, rfl, rfl⟩
  refine KO.q rfl (q_assign rfl) ?_
  refine KO.done ?_
  refine K.seq ?_
  refine K.region ?_
  refine KO.q rfl (q_field fo_33_0 rfl) ?_
  refine KO.q rfl (q_load1D ck_9 rfl) ?_
  refine KO.q rfl (q_load1D ck_9 rfl) ?_
  refine KO.q rfl (q_seq rfl rfl) ?_
  refine KO.q rfl (q_assign rfl) ?_
  refine KO.done ?_
  refine K.ret (fn := Tryz.f79) Tryz.func79 (fun a w hk hs => res1 Tryz.results79 hk rfl) (fun w hs => ?_)
  exact ⟨_, [pv b 9 [.string name]], rfl, ⟨rfl, rfl⟩, hs.fitD⟩
theorem st_Find (A : HP) (s : Sz) (name : ByteArray) (hA : IsRow A Kd.oz s.q s.l) (hl : s.l.length ≤ 1000000000) : Fn Tryz.prog 53 [.agg s.cells.toArray, .string name].toArray [A, NestF s.l] (fun r post => r = .int .i64 (findO s.st name) ∧ post = [A]) := by
  have hm : findO s.st name = idxP (fun o : Oz => decide (o.x.name = name)) s.l := idxP_map _ _ _
  refine Fn.enter (N := 9) Tryz.func53 rfl Tryz.ntmps53 (by kernel_rfl) rfl (fun ρ L => ?_)
  refine K.seq ?_
  refine K.region ?_
  refine KO.loud rfl (l_box rfl rfl) ?_
  rintro _ _ ⟨b2, rfl, rfl⟩
  refine KO.loud rfl (l_box rfl rfl) ?_
  rintro _ _ ⟨b3, rfl, rfl⟩
  refine KO.q rfl (q_assign rfl) ?_
  refine KO.done ?_
  refine K.seq ?_
  refine K.region ?_
  refine KO.q rfl (q_field fo_24_1 rfl) ?_
  refine KO.q rfl (q_load1D ck_22 rfl) ?_
  refine KO.q rfl (q_func rfl rfl) ?_
  refine KO.loud rfl (OpL.callD rfl (h := ixg_oz A (pv b3 9 [.string name]) (NestF s.l) s.q s.c s.l hA 79 [.pointer (some ⟨b3, 0, none⟩)] (fun o => decide (o.x.name = name)) (by omega) (fun x _ => sf1 s.l b3 name x))) ?_
  rintro _ _ ⟨_, ⟨rfl, rfl⟩, rfl⟩
  refine KO.q rfl (q_assign rfl) ?_
  refine KO.done ?_
  refine K.ret (fn := Tryz.f53) Tryz.func53 (fun a w hk hs => res1 Tryz.results53 hk rfl) (fun w hs => ?_)
  rw [hm]
  exact ⟨_, [A], rfl, ⟨rfl, rfl⟩, hs.fitD⟩
theorem sh1 (l : List Oz) (b : Nat) (id : Int) (x : Oz) (hx : x ∈ l) (hl : x.le 1000000000) : Fn Tryz.prog 106 [.agg x.cells.toArray, .pointer (some ⟨b, 0, none⟩)].toArray [pv b 3 [.int .i64 id], NestF l] (fun v post => v = .bool (decide (whereM x.x id ≠ 0)) ∧ post = [pv b 3 [.int .i64 id]]) := by
  refine Fn.enter (N := 8) Tryz.func106 rfl Tryz.ntmps106 (by kernel_rfl) rfl (fun ρ L => ?_)
  refine K.seq ?_
  refine K.region ?_
  refine KO.loud rfl (l_box rfl rfl) ?_
  rintro _ _ ⟨b2, rfl, rfl⟩
  refine KO.q rfl (q_assign rfl) ?_
  refine KO.done ?_
  refine K.seq ?_
  refine K.st (fun w h => nestF_at (l := l) (by repeat (first | exact List.Mem.head _ | apply List.Mem.tail)) hx h) ?_
  refine K.region ?_
  refine KO.q rfl (q_loadN ck_33 rfl rfl (by first | (apply cells_pv; (repeat (first | exact List.Mem.head _ | apply List.Mem.tail))) | (apply cells_fv; (repeat (first | exact List.Mem.head _ | apply List.Mem.tail))))) ?_
  refine KO.q rfl (q_load1D ck_3 rfl) ?_
  refine KO.loud rfl (OpL.callD rfl (h := dd_Where x id hl)) ?_
  rintro _ _ ⟨_, ⟨rfl, rfl⟩, rfl⟩
  refine KO.q rfl (q_ne rfl rfl) ?_
  refine KO.q rfl (q_assign rfl) ?_
  refine KO.done ?_
  refine K.ret (fn := Tryz.f106) Tryz.func106 (fun a w hk hs => res1 Tryz.results106 hk rfl) (fun w hs => ?_)
  exact ⟨_, [pv b 3 [.int .i64 id]], rfl, ⟨rfl, rfl⟩, hs.fitD⟩
theorem st_has (A : HP) (s : Sz) (id : Int) (hA : IsRow A Kd.oz s.q s.l) (hl : s.l.length ≤ 1000000000) (hle : ∀ o ∈ s.l, o.le 1000000000) : Fn Tryz.prog 94 [.agg s.cells.toArray, .int .i64 id].toArray [A, NestF s.l] (fun r post => r = .bool (hasM s.st id) ∧ post = [A]) := by
  have hm : hasM s.st id = s.l.any (fun o : Oz => decide (whereM o.x id ≠ 0)) := List.any_map
  refine Fn.enter (N := 9) Tryz.func94 rfl Tryz.ntmps94 (by kernel_rfl) rfl (fun ρ L => ?_)
  refine K.seq ?_
  refine K.region ?_
  refine KO.loud rfl (l_box rfl rfl) ?_
  rintro _ _ ⟨b2, rfl, rfl⟩
  refine KO.loud rfl (l_box rfl rfl) ?_
  rintro _ _ ⟨b3, rfl, rfl⟩
  refine KO.q rfl (q_assign rfl) ?_
  refine KO.done ?_
  refine K.seq ?_
  refine K.region ?_
  refine KO.q rfl (q_field fo_24_1 rfl) ?_
  refine KO.q rfl (q_load1D ck_22 rfl) ?_
  refine KO.q rfl (q_func rfl rfl) ?_
  refine KO.loud rfl (OpL.callD rfl (h := cog_oz A (pv b3 3 [.int .i64 id]) (NestF s.l) s.q s.c s.l hA 106 [.pointer (some ⟨b3, 0, none⟩)] (fun o => decide (whereM o.x id ≠ 0)) (by omega) (fun x hx => sh1 s.l b3 id x hx (hle x hx)))) ?_
  rintro _ _ ⟨_, ⟨rfl, rfl⟩, rfl⟩
  refine KO.q rfl (q_assign rfl) ?_
  refine KO.done ?_
  refine K.ret (fn := Tryz.f94) Tryz.func94 (fun a w hk hs => res1 Tryz.results94 hk rfl) (fun w hs => ?_)
  rw [hm]
  exact ⟨_, [A], rfl, ⟨rfl, rfl⟩, hs.fitD⟩
theorem sm1 (l : List Oz) (b : Nat) (e : Eff) (x : Oz) : Fn Tryz.prog 77 [.agg x.cells.toArray, .pointer (some ⟨b, 0, none⟩)].toArray [pv b 80 e.cells, NestF l] (fun v post => v = .bool (decide (0 < cmpB x.x.name e.object)) ∧ post = [pv b 80 e.cells]) := by
  refine Fn.enter (N := 10) Tryz.func77 rfl Tryz.ntmps77 (by kernel_rfl) rfl (fun ρ L => ?_)
  refine K.seq ?_
  refine K.region ?_
  refine KO.loud rfl (l_box rfl rfl) ?_
  rintro _ _ ⟨b2, rfl, rfl⟩
  refine KO.q rfl (q_assign rfl) ?_
  refine KO.done ?_
  refine K.seq ?_
  refine K.region ?_
  refine KO.q rfl (q_field fo_33_0 rfl) ?_
  refine KO.q rfl (q_load1D ck_9 rfl) ?_
  refine KO.q rfl (q_field fo_80_1 rfl) ?_
  refine KO.q rfl (q_load1D ck_9 rfl) ?_
  refine KO.loud rfl (OpL.callD rfl (h := ord_Keys _ _)) ?_
  rintro _ _ ⟨_, ⟨rfl, rfl⟩, rfl⟩
  refine KO.q rfl (q_gt rfl rfl) ?_
  refine KO.q rfl (q_assign rfl) ?_
  refine KO.done ?_
  refine K.ret (fn := Tryz.f77) Tryz.func77 (fun a w hk hs => res1 Tryz.results77 hk rfl) (fun w hs => ?_)
  exact ⟨_, [pv b 80 e.cells], rfl, ⟨rfl, rfl⟩, hs.fitD⟩
theorem st_mk {nx : Int} {q q' : Option Addr} {c c' : Nat} {l l' : List Oz} (h : l' = l) : Sz.st ⟨nx, q', c', l'⟩ = Sz.st ⟨nx, q, c, l⟩ := by subst h; rfl
set_option maxHeartbeats 1600000 in
theorem st_make1 (b : Nat) (s : Sz) (e : Eff) (hc : s.l.length ≤ s.c) (hl : s.l.length ≤ 1000000000) (hcap : ∀ o ∈ s.l, o.cap) : Fn Tryz.prog 51 [.pointer (some ⟨b, 0, none⟩), .agg e.cells.toArray].toArray (StO b s) (fun r post => ∃ s' : Sz, r = .int .i64 (makeS s.st e).2 ∧ s'.st = (makeS s.st e).1 ∧ post = StO b s' ∧ s'.l.length ≤ s'.c ∧ ∀ o ∈ s'.l, o.cap) := by
  obtain ⟨nx, q, c, l⟩ := s
  have hc : l.length ≤ c := hc
  have hl : l.length ≤ 1000000000 := hl
  have hpm : plc (fun o : Ob => decide (0 < cmpB o.name e.object)) (Sz.st ⟨nx, q, c, l⟩).objs = plc (fun o : Oz => decide (0 < cmpB o.x.name e.object)) l := by
    unfold plc
    rw [show (Sz.st ⟨nx, q, c, l⟩).objs = l.map (·.x) from rfl, idxP_map, List.length_map]
  refine Fn.enter (N := 49) Tryz.func51 rfl Tryz.ntmps51 (by kernel_rfl) rfl (fun ρ L => ?_)
  refine K.seq ?_
  refine K.region ?_
  refine KO.loud rfl (l_box rfl rfl) ?_
  rintro _ _ ⟨b3, rfl, rfl⟩
  refine KO.q rfl (q_assign rfl) ?_
  refine KO.done ?_
  refine K.seq <| K.seq ?_
  refine K.drawS [pv b 24 (Sz.cells ⟨nx, q, c, l⟩), pv b3 80 e.cells] (fun _ h => h.subD) mixed ?_
  refine D.q 0 rfl (by kernel_rfl) (by kernel_rfl) (q_move rfl) (fun _ h => h.subD) ?_
  refine D.q 1 rfl (by kernel_rfl) (by kernel_rfl) (q_nilCheck rfl) (fun _ h => h.subD) ?_
  refine D.q 2 rfl (by kernel_rfl) (by kernel_rfl) (q_as_sz (q_loadN ck_24 rfl rfl (by first | (apply cells_pv; (repeat (first | exact List.Mem.head _ | apply List.Mem.tail))) | (apply cells_fv; (repeat (first | exact List.Mem.head _ | apply List.Mem.tail))))) (by rfl)) (fun _ h => h.subD) ?_
  refine D.q 3 rfl (by kernel_rfl) (by kernel_rfl) (q_field fo_80_1 rfl) (fun _ h => h.subD) ?_
  refine D.q 4 rfl (by kernel_rfl) (by kernel_rfl) (q_load1D ck_9 rfl) (fun _ h => h.subD) ?_
  refine D.all (rs := [5]) (by kernel_rfl) rfl (DAll.cons rfl (by kernel_rfl) (OpL.callD rfl (h := st_Find (RowO Kd.oz 33 q c l) ⟨nx, q, c, l⟩ e.object isO hl)) (.inr (by rintro _ _ ⟨_, ⟨rfl, rfl⟩, rfl⟩ w h; exact h.subD)) rfl ?_ DAll.nil)
  rintro _ _ ⟨_, ⟨rfl, rfl⟩, rfl⟩
  refine D.q 6 rfl (by kernel_rfl) (by kernel_rfl) (q_ge rfl rfl) (fun _ h => h.subD) ?_
  refine D.done (by kernel_rfl) ?_
  refine K.dcond (s := 12) rfl (fun g12 => ?_) (fun g12 => ?_)
  · have hr : makeS (Sz.st ⟨nx, q, c, l⟩) e = (Sz.st ⟨nx, q, c, l⟩, 4) := by unfold makeS; rw [if_pos g12]
    refine K.seq ?_
    refine K.region ?_
    refine KO.q rfl (q_assign rfl) ?_
    refine KO.done ?_
    refine K.ret (fn := Tryz.f51) Tryz.func51 (fun a w hk hs => res1 Tryz.results51 hk rfl) (fun w hs => ?_)
    rw [hr]
    exact ⟨_, StO b ⟨nx, q, c, l⟩, rfl, ⟨⟨nx, q, c, l⟩, rfl, rfl, rfl, hc, hcap⟩, hs.fitD⟩
  · refine K.skip <| K.seq <| K.seq ?_
    refine K.region ?_
    refine KO.q rfl (q_move rfl) ?_
    refine KO.q rfl (q_nilCheck rfl) ?_
    refine KO.q rfl (q_field fo_24_1 rfl) ?_
    refine KO.q rfl (q_load1D ck_22 rfl) ?_
    refine KO.q rfl (q_len Tryz.underlying22 rfl) ?_
    refine KO.q rfl (q_ge rfl rfl) ?_
    refine KO.done ?_
    refine K.dcond (s := 18) rfl (fun g18 => ?_) (fun g18 => ?_)
    · have g18 : (20 : Int) ≤ (l.length : Int) := g18
      have hr : makeS (Sz.st ⟨nx, q, c, l⟩) e = (Sz.st ⟨nx, q, c, l⟩, 6) := by unfold makeS; rw [if_neg g12, if_pos (by show 20 ≤ (l.map (·.x)).length; rw [List.length_map]; omega)]
      refine K.seq ?_
      refine K.region ?_
      refine KO.q rfl (q_assign rfl) ?_
      refine KO.done ?_
      refine K.ret (fn := Tryz.f51) Tryz.func51 (fun a w hk hs => res1 Tryz.results51 hk rfl) (fun w hs => ?_)
      rw [hr]
      exact ⟨_, StO b ⟨nx, q, c, l⟩, rfl, ⟨⟨nx, q, c, l⟩, rfl, rfl, rfl, hc, hcap⟩, hs.fitD⟩
    · have g18 : ¬ (20 : Int) ≤ (l.length : Int) := g18
      have hr0 : makeS (Sz.st ⟨nx, q, c, l⟩) e = (⟨nx, insAt (l.map (·.x)) (plc (fun o : Oz => decide (0 < cmpB o.x.name e.object)) l) ⟨e.object, e.n, e.limit, [], [], []⟩⟩, 0) := by unfold makeS; rw [if_neg g12, if_neg (by show ¬ 20 ≤ (l.map (·.x)).length; rw [List.length_map]; omega), hpm]; rfl
      refine K.skip <| K.seq ?_
      refine K.region ?_
      refine KO.q rfl (q_move rfl) ?_
      refine KO.q rfl (q_nilCheck rfl) ?_
      refine KO.q rfl (q_field fo_24_1 rfl) ?_
      refine KO.q rfl (q_load1D ck_22 rfl) ?_
      refine KO.q rfl (q_func rfl rfl) ?_
      refine KO.loud rfl (OpL.callD rfl (h := ixg_oz (RowO Kd.oz 33 q c l) (pv b3 80 e.cells) (NestF l) q c l isO 77 [.pointer (some ⟨b3, 0, none⟩)] (fun o => decide (0 < cmpB o.x.name e.object)) (by omega) (fun x _ => sm1 l b3 e x))) ?_
      rintro _ _ ⟨_, ⟨rfl, rfl⟩, rfl⟩
      refine KO.q rfl (q_assign rfl) ?_
      refine KO.done ?_
      refine K.seq <| K.seq ?_
      refine K.region ?_
      refine KO.q rfl (q_move rfl) ?_
      refine KO.q rfl (q_lt rfl rfl) ?_
      refine KO.done ?_
      refine K.dcond (s := 26) rfl (fun g26 => ?_) (fun g26 => ?_)
      · have hpl : plc (fun o : Oz => decide (0 < cmpB o.x.name e.object)) l = l.length := by unfold plc; rw [if_pos g26]
        rw [hpl] at hr0
        refine K.region ?_
        refine KO.q rfl (q_move rfl) ?_
        refine KO.q rfl (q_nilCheck rfl) ?_
        refine KO.q rfl (q_field fo_24_1 rfl) ?_
        refine KO.q rfl (q_load1D ck_22 rfl) ?_
        refine KO.q rfl (q_len Tryz.underlying22 rfl) ?_
        refine KO.q rfl (q_assign rfl) ?_
        refine KO.done ?_
        refine K.seq ?_
        refine K.drawS [pv b 24 (Sz.cells ⟨nx, q, c, l⟩), pv b3 80 e.cells] (fun _ h => h.subD) mixed ?_
        refine D.q 0 rfl (by kernel_rfl) (by kernel_rfl) (q_move rfl) (fun _ h => h.subD) ?_
        refine D.q 1 rfl (by kernel_rfl) (by kernel_rfl) (q_move rfl) (fun _ h => h.subD) ?_
        refine D.q 2 rfl (by kernel_rfl) (by kernel_rfl) (q_nilCheck rfl) (fun _ h => h.subD) ?_
        refine D.q 3 rfl (by kernel_rfl) (by kernel_rfl) (q_field fo_24_1 rfl) (fun _ h => h.subD) ?_
        refine D.q 4 rfl (by kernel_rfl) (by kernel_rfl) (q_load1D ck_22 rfl) (fun _ h => h.subD) ?_
        refine D.q 5 rfl (by kernel_rfl) (by kernel_rfl) (q_move rfl) (fun _ h => h.subD) ?_
        refine D.q 6 rfl (by kernel_rfl) (by kernel_rfl) (q_field fo_80_1 rfl) (fun _ h => h.subD) ?_
        refine D.q 7 rfl (by kernel_rfl) (by kernel_rfl) (q_load1D ck_9 rfl) (fun _ h => h.subD) ?_
        refine D.q 8 rfl (by kernel_rfl) (by kernel_rfl) (q_field fo_80_4 rfl) (fun _ h => h.subD) ?_
        refine D.q 9 rfl (by kernel_rfl) (by kernel_rfl) (q_load1D ck_3 rfl) (fun _ h => h.subD) ?_
        refine D.q 10 rfl (by kernel_rfl) (by kernel_rfl) (q_field fo_80_5 rfl) (fun _ h => h.subD) ?_
        refine D.q 11 rfl (by kernel_rfl) (by kernel_rfl) (q_load1D ck_3 rfl) (fun _ h => h.subD) ?_
        refine D.q 12 rfl (by kernel_rfl) (by kernel_rfl) (q_as_oz (rows_ := []) (msgs_ := []) (dead_ := []) (q_build st_33 rfl (by repeat (first | exact Fill.nil | (apply Fill.cons; rfl; rfl; rfl) | exact SetN.nil | apply SetN.cons | exact SetAt.here | apply SetAt.there))) rfl) (fun _ h => h.subD) ?_
        refine D.all (rs := [13]) (by kernel_rfl) rfl (DAll.cons rfl (by kernel_rfl) (l_slice1 sz_22_1 rfl rfl ⟨rfl, rfl, rfl⟩) (.inr (by rintro _ _ ⟨b45, rfl, rfl⟩ w h; exact h.subD)) rfl ?_ DAll.nil)
        rintro _ _ ⟨b45, rfl, rfl⟩
        refine D.all (rs := [14]) (by kernel_rfl) rfl (DAll.cons rfl (by kernel_rfl) (OpL.callD rfl (h := ins_oz q c l l.length b45 _ ⟨⟨e.object, e.n, e.limit, [], [], []⟩, ⟨none, 0, none, 0, none, 0⟩⟩ (Nat.le_refl _) hc hl)) (.inr (by rintro _ _ ⟨_, ⟨qn, cn, rfl, rfl, hcn⟩, rfl⟩ w h; exact h.subD)) rfl ?_ DAll.nil)
        rintro _ _ ⟨_, ⟨qn, cn, rfl, rfl, hcn⟩, rfl⟩
        refine D.all (rs := [15]) (by kernel_rfl) rfl (DAll.cons rfl (by kernel_rfl) (OpQ.loud (q_nilCheck rfl)) (.inl (by kernel_rfl)) rfl ?_ DAll.nil)
        rintro _ _ ⟨rfl, rfl⟩
        refine D.all (rs := [16]) (by kernel_rfl) rfl (DAll.cons rfl (by kernel_rfl) (OpQ.loud (q_field fo_24_1 rfl)) (.inl (by kernel_rfl)) rfl ?_ DAll.nil)
        rintro _ _ ⟨rfl, rfl⟩
        refine D.all (rs := [17]) (by kernel_rfl) rfl (DAll.consN rfl (by kernel_rfl) (l_store1 ck_22 rfl rfl rfl (by repeat (first | exact Pick.here | apply Pick.there)) (by repeat (first | exact SetAt.here | apply SetAt.there))) (.inl (by kernel_rfl)) rfl ?_ DAll.nil)
        rintro _ _ ⟨rfl, rfl⟩
        refine D.done (by kernel_rfl) ?_
        refine K.seq ?_
        refine K.region ?_
        refine KO.q rfl (q_assign rfl) ?_
        refine KO.done ?_
        refine K.ret (fn := Tryz.f51) Tryz.func51 (fun a w hk hs => res1 Tryz.results51 hk rfl) (fun w hs => ?_)
        rw [hr0]
        have hmem : ∀ (i : Nat) (o p : Oz), p ∈ insAt l i o → p ∈ l ∨ p = o := fun i o p hp => by
          unfold insAt at hp
          rcases List.mem_append.1 hp with hp | hp
          · rcases List.mem_append.1 hp with hp | hp
            · exact .inl (List.mem_of_mem_take hp)
            · exact .inr (List.mem_singleton.1 hp)
          · exact .inl (List.mem_of_mem_drop hp)
        exact ⟨_, StO b ⟨nx, qn, cn, insAt l _ ⟨⟨e.object, e.n, e.limit, [], [], []⟩, ⟨none, 0, none, 0, none, 0⟩⟩⟩, rfl, ⟨⟨nx, qn, cn, insAt l _ ⟨⟨e.object, e.n, e.limit, [], [], []⟩, ⟨none, 0, none, 0, none, 0⟩⟩⟩, rfl, (by
            unfold Sz.st insAt
            simp only [List.map_append, List.map_take, List.map_drop, List.map_cons, List.map_nil]), rfl, hcn, fun p hp => (hmem _ _ p hp).elim (hcap p) (fun h => by rw [h]; exact ⟨Nat.le_refl _, Nat.le_refl _, Nat.le_refl _⟩)⟩,
          (nestF_put (l := l) ⟨⟨e.object, e.n, e.limit, [], [], []⟩, ⟨none, 0, none, 0, none, 0⟩⟩ (hmem _ _) (by repeat (first | exact List.Mem.head _ | apply List.Mem.tail)) (by repeat (first | exact List.Mem.head _ | apply List.Mem.tail)) (by repeat (first | exact List.Mem.head _ | apply List.Mem.tail)) (by repeat (first | exact List.Mem.head _ | apply List.Mem.tail)) (rowF_nilA (k := Kd.rw) (rowF_nilA (k := Kd.msg) (hs.fit (M := [pv b 24 (Sz.cells ⟨nx, qn, cn, insAt l _ ⟨⟨e.object, e.n, e.limit, [], [], []⟩, ⟨none, 0, none, 0, none, 0⟩⟩⟩), RowO Kd.oz 33 qn cn (insAt l _ ⟨⟨e.object, e.n, e.limit, [], [], []⟩, ⟨none, 0, none, 0, none, 0⟩⟩), NestF l]) (by repeat (first | exact Give.nil | (apply Give.perI; (repeat (first | exact List.Mem.head _ | apply List.Mem.tail))) | (apply Give.own; (repeat (first | exact Pick.here | apply Pick.there))))) (by repeat (first | exact Drop.refl | apply Drop.skip)))))).fitD⟩
      · obtain ⟨i, x, hx, hi, _⟩ := idxP_nat g26
        have hpl : plc (fun o : Oz => decide (0 < cmpB o.x.name e.object)) l = i := by unfold plc; rw [if_neg g26, hi]; rfl
        have hile : i ≤ l.length := by have := (List.getElem?_eq_some_iff.1 hx).1; omega
        rw [hpl] at hr0
        rw [hi]
        refine K.skip <| K.seq ?_
        refine K.drawS [pv b 24 (Sz.cells ⟨nx, q, c, l⟩), pv b3 80 e.cells] (fun _ h => h.subD) mixed ?_
        refine D.q 0 rfl (by kernel_rfl) (by kernel_rfl) (q_move rfl) (fun _ h => h.subD) ?_
        refine D.q 1 rfl (by kernel_rfl) (by kernel_rfl) (q_move rfl) (fun _ h => h.subD) ?_
        refine D.q 2 rfl (by kernel_rfl) (by kernel_rfl) (q_nilCheck rfl) (fun _ h => h.subD) ?_
        refine D.q 3 rfl (by kernel_rfl) (by kernel_rfl) (q_field fo_24_1 rfl) (fun _ h => h.subD) ?_
        refine D.q 4 rfl (by kernel_rfl) (by kernel_rfl) (q_load1D ck_22 rfl) (fun _ h => h.subD) ?_
        refine D.q 5 rfl (by kernel_rfl) (by kernel_rfl) (q_move rfl) (fun _ h => h.subD) ?_
        refine D.q 6 rfl (by kernel_rfl) (by kernel_rfl) (q_field fo_80_1 rfl) (fun _ h => h.subD) ?_
        refine D.q 7 rfl (by kernel_rfl) (by kernel_rfl) (q_load1D ck_9 rfl) (fun _ h => h.subD) ?_
        refine D.q 8 rfl (by kernel_rfl) (by kernel_rfl) (q_field fo_80_4 rfl) (fun _ h => h.subD) ?_
        refine D.q 9 rfl (by kernel_rfl) (by kernel_rfl) (q_load1D ck_3 rfl) (fun _ h => h.subD) ?_
        refine D.q 10 rfl (by kernel_rfl) (by kernel_rfl) (q_field fo_80_5 rfl) (fun _ h => h.subD) ?_
        refine D.q 11 rfl (by kernel_rfl) (by kernel_rfl) (q_load1D ck_3 rfl) (fun _ h => h.subD) ?_
        refine D.q 12 rfl (by kernel_rfl) (by kernel_rfl) (q_as_oz (rows_ := []) (msgs_ := []) (dead_ := []) (q_build st_33 rfl (by repeat (first | exact Fill.nil | (apply Fill.cons; rfl; rfl; rfl) | exact SetN.nil | apply SetN.cons | exact SetAt.here | apply SetAt.there))) rfl) (fun _ h => h.subD) ?_
        refine D.all (rs := [13]) (by kernel_rfl) rfl (DAll.cons rfl (by kernel_rfl) (l_slice1 sz_22_1 rfl rfl ⟨rfl, rfl, rfl⟩) (.inr (by rintro _ _ ⟨b45, rfl, rfl⟩ w h; exact h.subD)) rfl ?_ DAll.nil)
        rintro _ _ ⟨b45, rfl, rfl⟩
        refine D.all (rs := [14]) (by kernel_rfl) rfl (DAll.cons rfl (by kernel_rfl) (OpL.callD rfl (h := ins_oz q c l i b45 _ ⟨⟨e.object, e.n, e.limit, [], [], []⟩, ⟨none, 0, none, 0, none, 0⟩⟩ hile hc hl)) (.inr (by rintro _ _ ⟨_, ⟨qn, cn, rfl, rfl, hcn⟩, rfl⟩ w h; exact h.subD)) rfl ?_ DAll.nil)
        rintro _ _ ⟨_, ⟨qn, cn, rfl, rfl, hcn⟩, rfl⟩
        refine D.all (rs := [15]) (by kernel_rfl) rfl (DAll.cons rfl (by kernel_rfl) (OpQ.loud (q_nilCheck rfl)) (.inl (by kernel_rfl)) rfl ?_ DAll.nil)
        rintro _ _ ⟨rfl, rfl⟩
        refine D.all (rs := [16]) (by kernel_rfl) rfl (DAll.cons rfl (by kernel_rfl) (OpQ.loud (q_field fo_24_1 rfl)) (.inl (by kernel_rfl)) rfl ?_ DAll.nil)
        rintro _ _ ⟨rfl, rfl⟩
        refine D.all (rs := [17]) (by kernel_rfl) rfl (DAll.consN rfl (by kernel_rfl) (l_store1 ck_22 rfl rfl rfl (by repeat (first | exact Pick.here | apply Pick.there)) (by repeat (first | exact SetAt.here | apply SetAt.there))) (.inl (by kernel_rfl)) rfl ?_ DAll.nil)
        rintro _ _ ⟨rfl, rfl⟩
        refine D.done (by kernel_rfl) ?_
        refine K.seq ?_
        refine K.region ?_
        refine KO.q rfl (q_assign rfl) ?_
        refine KO.done ?_
        refine K.ret (fn := Tryz.f51) Tryz.func51 (fun a w hk hs => res1 Tryz.results51 hk rfl) (fun w hs => ?_)
        rw [hr0]
        have hmem : ∀ (i : Nat) (o p : Oz), p ∈ insAt l i o → p ∈ l ∨ p = o := fun i o p hp => by
          unfold insAt at hp
          rcases List.mem_append.1 hp with hp | hp
          · rcases List.mem_append.1 hp with hp | hp
            · exact .inl (List.mem_of_mem_take hp)
            · exact .inr (List.mem_singleton.1 hp)
          · exact .inl (List.mem_of_mem_drop hp)
        exact ⟨_, StO b ⟨nx, qn, cn, insAt l _ ⟨⟨e.object, e.n, e.limit, [], [], []⟩, ⟨none, 0, none, 0, none, 0⟩⟩⟩, rfl, ⟨⟨nx, qn, cn, insAt l _ ⟨⟨e.object, e.n, e.limit, [], [], []⟩, ⟨none, 0, none, 0, none, 0⟩⟩⟩, rfl, (by
            unfold Sz.st insAt
            simp only [List.map_append, List.map_take, List.map_drop, List.map_cons, List.map_nil]), rfl, hcn, fun p hp => (hmem _ _ p hp).elim (hcap p) (fun h => by rw [h]; exact ⟨Nat.le_refl _, Nat.le_refl _, Nat.le_refl _⟩)⟩,
          (nestF_put (l := l) ⟨⟨e.object, e.n, e.limit, [], [], []⟩, ⟨none, 0, none, 0, none, 0⟩⟩ (hmem _ _) (by repeat (first | exact List.Mem.head _ | apply List.Mem.tail)) (by repeat (first | exact List.Mem.head _ | apply List.Mem.tail)) (by repeat (first | exact List.Mem.head _ | apply List.Mem.tail)) (by repeat (first | exact List.Mem.head _ | apply List.Mem.tail)) (rowF_nilA (k := Kd.rw) (rowF_nilA (k := Kd.msg) (hs.fit (M := [pv b 24 (Sz.cells ⟨nx, qn, cn, insAt l _ ⟨⟨e.object, e.n, e.limit, [], [], []⟩, ⟨none, 0, none, 0, none, 0⟩⟩⟩), RowO Kd.oz 33 qn cn (insAt l _ ⟨⟨e.object, e.n, e.limit, [], [], []⟩, ⟨none, 0, none, 0, none, 0⟩⟩), NestF l]) (by repeat (first | exact Give.nil | (apply Give.perI; (repeat (first | exact List.Mem.head _ | apply List.Mem.tail))) | (apply Give.own; (repeat (first | exact Pick.here | apply Pick.there))))) (by repeat (first | exact Drop.refl | apply Drop.skip)))))).fitD⟩
end Go.Proofs.YthnmoiilaaoooaaGreat.L
