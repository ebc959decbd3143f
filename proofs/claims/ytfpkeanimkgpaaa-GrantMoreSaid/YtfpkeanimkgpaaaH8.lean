/- The law GrantPlays, walked. -/
import Derived.Test.YtfpkeanimkgpaaaH7
namespace Go.Proofs.Ytfpkeanimkgpaaa.L
open Go Go.Proofs
attribute [local irreducible] pv fv pt fz RowF RowO rowP old pure_ elA
set_option maxRecDepth 100000
set_option linter.unusedSimpArgs false
set_option linter.unusedVariables false

--%rec postelaw11.Act Act
--%kd postelaw11.Act Kd.act
structure Act where
  way : Int
  who : Int
  mode : Int
def Act.cells (x : Act) : List Value := [.int .i64 x.way, .int .i64 x.who, .int .i64 x.mode]
theorem act_sz (x : Act) : x.cells.length = 3 := rfl
theorem act_one (x : Act) : ∀ v ∈ x.cells, v.oneCell' = true := fun v h => by simp [Act.cells] at h; rcases h with rfl | rfl | rfl <;> rfl
def Kd.act : Kd Act := Kd.flat 3 Act.cells act_sz act_one
theorem q_as_act {X : Fx} {o : Oper} {E : Env} {L : List HP} {cs : List Value} {way_ : Int} {who_ : Int} {mode_ : Int} (h : OpQ X o E L (.agg cs.toArray)) (e : cs = [.int .i64 way_, .int .i64 who_, .int .i64 mode_]) : OpQ X o E L (.agg (Act.cells ⟨way_, who_, mode_⟩).toArray) := q_as h e
theorem act_ext {a b : Act} : a = b ↔ a.way = b.way ∧ a.who = b.who ∧ a.mode = b.mode := by cases a; cases b; simp
instance : DecidableEq Act := fun _ _ => decidable_of_iff _ act_ext.symm
theorem act_hp : Try.prog.stoodInHeld 54 = false := by kernel_rfl
theorem act_hg : Try.prog.eqGuardType Try.prog.depth 54 = false := by kernel_rfl
theorem act_eqD (a b : Act) {fs : Array Field} (h : Try.prog.underlying 54 = some (.struct fs)) : EqG Try.prog a.cells b.cells fs.toList (decide (a = b)) := by
  rw [Try.underlying54] at h
  cases h
  have e : ((a.way == b.way) && ((a.who == b.who) && ((a.mode == b.mode) && true))) = decide (a = b) := by rw [Bool.eq_iff_iff, decide_eq_true_iff, act_ext]; simp [bbeq]
  rw [← e]
  exact (.cons rfl ck_3 rfl rfl (.int Try.underlying3) (.cons rfl ck_3 rfl rfl (.int Try.underlying3) (.cons rfl ck_3 rfl rfl (.int Try.underlying3) .nil)))
def Act.beq (a b : Act) : Bool := (a.way == b.way) && ((a.who == b.who) && ((a.mode == b.mode) && true))
theorem act_beqD (a b : Act) : a.beq b = decide (a = b) := by rw [Bool.eq_iff_iff, decide_eq_true_iff, act_ext]; simp [Act.beq, bbeq]
theorem act_eqF (a b : Act) {fs : Array Field} (h : Try.prog.underlying 54 = some (.struct fs)) : EqF Try.prog a.cells b.cells fs.toList (a.beq b) := by
  rw [Try.underlying54] at h
  cases h
  exact (.cons rfl ck_3 rfl rfl (.int Try.underlying3) (.cons rfl ck_3 rfl rfl (.int Try.underlying3) (.cons rfl ck_3 rfl rfl (.int Try.underlying3) .nil)))
def Act.fits (x : Act) : Prop := (-9223372036854775808 ≤ x.way ∧ x.way ≤ 9223372036854775807) ∧ (-9223372036854775808 ≤ x.who ∧ x.who ≤ 9223372036854775807) ∧ (-9223372036854775808 ≤ x.mode ∧ x.mode ≤ 9223372036854775807)
theorem act_len (cs : List Value) (h : cs.length = 3) : ∃ v0 v1 v2, cs = [v0, v1, v2] := by
  match cs, h with
  | [v0, v1, v2], _ => exact ⟨v0, v1, v2, rfl⟩
theorem opens_act {H : Type} {enc : TypeId × Value → H} {W : World} : Opens enc Try.prog W Kd.act 54 Act.fits := fun fuel cs y h => by
  obtain ⟨hl, n, hf⟩ := opens_fields Try.underlying54 h
  have hl2 : cs.length = 3 := hl.trans (by kernel_rfl)
  obtain ⟨v0, v1, v2, rfl⟩ := act_len cs hl2
  have cint : Try.prog.cellsOf 3 = 1 := by kernel_rfl
  obtain ⟨y0, h0⟩ := hf 0 _ rfl
  replace h0 : DataW.trod enc Try.prog W 0 (fun _ => true) true n 3 (([v0, v1, v2].drop 0).take (Try.prog.cellsOf 3)) = some y0 := h0
  rw [cint] at h0
  obtain ⟨x0, e0, b0⟩ := opens_int Try.underlying3 _ _ _ h0
  have u0 : v0 = Value.int .i64 x0 := (List.cons.inj (show [v0] = [Value.int .i64 x0] from e0)).1
  obtain ⟨y1, h1⟩ := hf 1 _ rfl
  replace h1 : DataW.trod enc Try.prog W 0 (fun _ => true) true n 3 (([v0, v1, v2].drop 1).take (Try.prog.cellsOf 3)) = some y1 := h1
  rw [cint] at h1
  obtain ⟨x1, e1, b1⟩ := opens_int Try.underlying3 _ _ _ h1
  have u1 : v1 = Value.int .i64 x1 := (List.cons.inj (show [v1] = [Value.int .i64 x1] from e1)).1
  obtain ⟨y2, h2⟩ := hf 2 _ rfl
  replace h2 : DataW.trod enc Try.prog W 0 (fun _ => true) true n 3 (([v0, v1, v2].drop 2).take (Try.prog.cellsOf 3)) = some y2 := h2
  rw [cint] at h2
  obtain ⟨x2, e2, b2⟩ := opens_int Try.underlying3 _ _ _ h2
  have u2 : v2 = Value.int .i64 x2 := (List.cons.inj (show [v2] = [Value.int .i64 x2] from e2)).1
  refine ⟨⟨x0, x1, x2⟩, ?_, b0, b1, b2⟩
  show [v0, v1, v2] = Act.cells _
  simp only [Act.cells]
  subst u0 u1 u2
  rfl
theorem pump_out : ∀ (l h : List One), (pump h l).1.length ≤ l.length
  | [], h => Nat.le_refl _
  | x :: l, h => by
    unfold pump
    split
    · have := pump_out l ((Lk.mk h []).grant x).hold
      simp only [List.length_cons]
      omega
    · exact Nat.zero_le _
theorem Lk.drop_out (k : Lk) (who : Int) : (k.drop who).1.length ≤ k.size := by
  have h1 := pump_out (k.without who).line (k.without who).hold
  have h2 : (k.without who).line.length ≤ k.line.length := List.length_filter_le _ _
  have h3 : (k.drop who).1.length = (L.pump (k.without who).hold (k.without who).line).1.length := rfl
  unfold Lk.size
  omega
theorem Lk.holds_len (k : Lk) : k.holds.length ≤ k.size := by
  unfold Lk.holds Lk.size
  rw [List.length_append, List.length_map, List.length_map]
  have := List.length_filter_le (fun w => !k.has w.who) k.line
  omega
set_option maxHeartbeats 3200000 in
theorem law_GrantPlays (q : Option Addr) (cap : Nat) (l : List Act) (hc : l.length ≤ cap) : Fn Try.prog 8 [.slice q l.length cap].toArray [RowF Kd.act q l] (fun r post => r = .bool true ∧ post = []) := by
  refine Fn.enter (N := 84) Try.func8 rfl Try.ntmps8 (by kernel_rfl) rfl (fun ρ L => ?_)
  refine K.seq ?_
  refine K.region ?_
  refine KO.q rfl (q_assign rfl) ?_
  refine KO.done ?_
  refine K.seq ?_
  refine K.region ?_
  refine KO.loud rfl (OpL.callD rfl (h := g_alive)) ?_
  rintro _ _ ⟨_, ⟨rfl, rfl⟩, rfl⟩
  refine KO.q rfl (q_assign rfl) ?_
  refine KO.done ?_
  refine K.seq <| K.seq ?_
  refine K.region ?_
  refine KO.q rfl (q_move rfl) ?_
  refine KO.q rfl (q_not rfl) ?_
  refine KO.q rfl (q_move rfl) ?_
  refine KO.q rfl (q_move rfl) ?_
  refine KO.q rfl (q_len Try.underlying44 rfl) ?_
  refine KO.q rfl (q_gt rfl rfl) ?_
  refine KO.q rfl (q_pickF rfl rfl) ?_
  refine KO.done ?_
  refine K.dcond (s := 16) rfl (fun g16 => ?_) (fun g16 => ?_)
  · refine K.seq ?_
    refine K.region ?_
    refine KO.q rfl (q_move rfl) ?_
    refine KO.q rfl (q_assign rfl) ?_
    refine KO.done ?_
    refine K.ret (fn := Try.f8) Try.func8 (fun a w hk hs => res1 Try.results8 hk rfl) (fun w hs => ?_)
    exact ⟨_, [], rfl, ⟨rfl, rfl⟩, hs.fitD⟩
  · refine K.skip <| K.seq ?_
    refine K.region ?_
    refine KO.q rfl (q_build st_48 rfl (by repeat (first | exact Fill.nil | (apply Fill.cons; rfl; rfl; rfl) | exact SetN.nil | apply SetN.cons | exact SetAt.here | apply SetAt.there))) ?_
    refine KO.loud rfl (l_box rfl rfl) ?_
    rintro _ _ ⟨b19, rfl, rfl⟩
    refine KO.q rfl (q_assign rfl) ?_
    refine KO.done ?_
    refine K.st (fun w h => lkX_new h) ?_
    refine K.seq ?_
    refine K.region ?_
    refine KO.q rfl (q_build st_48 rfl (by repeat (first | exact Fill.nil | (apply Fill.cons; rfl; rfl; rfl) | exact SetN.nil | apply SetN.cons | exact SetAt.here | apply SetAt.there))) ?_
    refine KO.loud rfl (l_box rfl rfl) ?_
    rintro _ _ ⟨b21, rfl, rfl⟩
    refine KO.q rfl (q_assign rfl) ?_
    refine KO.done ?_
    refine K.st (fun w h => lkX_new h) ?_
    refine K.seq ?_
    refine K.region ?_
    refine KO.q rfl (q_build st_52 rfl (by repeat (first | exact Fill.nil | (apply Fill.cons; rfl; rfl; rfl) | exact SetN.nil | apply SetN.cons | exact SetAt.here | apply SetAt.there))) ?_
    refine KO.loud rfl (l_box rfl rfl) ?_
    rintro _ _ ⟨b23, rfl, rfl⟩
    refine KO.q rfl (q_assign rfl) ?_
    refine KO.done ?_
    refine K.st (fun w h => rkX_new h) ?_
    refine K.seq <| K.seq ?_
    refine K.region ?_
    refine KO.q rfl (q_assign rfl) ?_
    refine KO.done ?_
    refine K.block ?_
    refine K.rounds2 (ι := { s : Nat × Lk × Lk // s.1 ≤ l.length ∧ s.2.1.size ≤ s.1 ∧ s.2.2.size ≤ s.1 ∧ s.2.1.Ok }) (fun s => [(7, .int .i64 s.1.1), (0, .slice q l.length cap), (4, .pointer (some ⟨b19, 0, none⟩)), (5, .pointer (some ⟨b21, 0, none⟩)), (6, .pointer (some ⟨b23, 0, none⟩))]) (fun s => [LkX b19 s.1.2.1, LkX b21 s.1.2.2, RkX b23 s.1.2.1, RowF Kd.act q l] ++ L) (fun s => l.length - s.1.1) ⟨(0, ⟨[], []⟩, ⟨[], []⟩), Nat.zero_le _, Nat.le_refl _, Nat.le_refl _, Lk.ok_nil⟩ (by repeat (first | exact Env.sub_nil _ | refine Env.sub_cons rfl ?_)) (fun w h => h.fitD) (fun s ih => ?_)
    obtain ⟨⟨i, kx, ko⟩, hi, hsx, hso, hok⟩ := s
    dsimp only at hi hsx hso hok ⊢
    refine K.seq <| K.seq ?_
    refine K.region ?_
    refine KO.q rfl (q_move rfl) ?_
    refine KO.q rfl (q_move rfl) ?_
    refine KO.q rfl (q_len Try.underlying44 rfl) ?_
    refine KO.q rfl (q_lt rfl rfl) ?_
    refine KO.done ?_
    refine K.dcond (s := 27) rfl (fun g27 => ?_) (fun g27 => ?_)
    · obtain ⟨a, ha⟩ : ∃ a, l[i]? = some a := ⟨_, List.getElem?_eq_getElem (by omega)⟩
      have hso2 := ko.ask_size i 5
      refine K.skip <| K.seq <| K.block <| K.seq ?_
      refine K.region ?_
      refine KO.q rfl (q_move rfl) ?_
      refine KO.q rfl (q_move rfl) ?_
      refine KO.q rfl (q_ix i se_44 rfl rfl rfl isF (by repeat (first | exact List.Mem.head _ | apply List.Mem.tail)) rfl (by omega)) ?_
      refine KO.q rfl (q_ldEN ck_54 rfl isF (by repeat (first | exact List.Mem.head _ | apply List.Mem.tail)) ha) ?_
      refine KO.loud rfl (l_alloc zo_54) ?_
      rintro _ _ ⟨b8, rfl, rfl⟩
      refine KO.loudN rfl (l_storeAll ck_54 rfl rfl ⟨rfl, rfl⟩ (act_one _) (by repeat (first | exact Pick.here | apply Pick.there))) ?_
      rintro _ _ ⟨rfl, rfl⟩
      refine KO.done ?_
      refine K.seq ?_
      refine K.region ?_
      refine KO.q rfl (q_move rfl) ?_
      refine KO.q rfl (q_move rfl) ?_
      refine KO.loud rfl (OpL.callD rfl (h := lk_AskX b21 ko i 5 (by omega))) ?_
      rintro _ _ ⟨_, ⟨rfl, rfl⟩, rfl⟩
      refine KO.done ?_
      refine K.seq <| K.seq ?_
      refine K.region ?_
      refine KO.q rfl (q_field fo_54_0 rfl) ?_
      refine KO.q rfl (q_load1D ck_3 rfl) ?_
      refine KO.done ?_
      refine K.block <| K.seq ?_
      refine K.region ?_
      refine KO.q rfl (q_eq rfl rfl) ?_
      refine KO.q rfl (q_assign rfl) ?_
      refine KO.done ?_
      refine K.dcond (s := 39) rfl (fun g39 => ?_) (fun g39 => ?_)
      · refine K.seq ?_
        refine K.drawS [pv b8 54 a.cells] (fun _ h => h.subD) mixed ?_
        refine D.q 0 rfl (by kernel_rfl) (by kernel_rfl) (q_move rfl) (fun _ h => h.subD) ?_
        refine D.q 1 rfl (by kernel_rfl) (by kernel_rfl) (q_field fo_54_1 rfl) (fun _ h => h.subD) ?_
        refine D.q 2 rfl (by kernel_rfl) (by kernel_rfl) (q_load1D ck_3 rfl) (fun _ h => h.subD) ?_
        refine D.q 3 rfl (by kernel_rfl) (by kernel_rfl) (q_field fo_54_2 rfl) (fun _ h => h.subD) ?_
        refine D.q 4 rfl (by kernel_rfl) (by kernel_rfl) (q_load1D ck_3 rfl) (fun _ h => h.subD) ?_
        refine D.q 6 rfl (by kernel_rfl) (by kernel_rfl) (q_move rfl) (fun _ h => h.subD) ?_
        refine D.q 7 rfl (by kernel_rfl) (by kernel_rfl) (q_field fo_54_1 rfl) (fun _ h => h.subD) ?_
        refine D.q 8 rfl (by kernel_rfl) (by kernel_rfl) (q_load1D ck_3 rfl) (fun _ h => h.subD) ?_
        refine D.q 9 rfl (by kernel_rfl) (by kernel_rfl) (q_field fo_54_2 rfl) (fun _ h => h.subD) ?_
        refine D.q 10 rfl (by kernel_rfl) (by kernel_rfl) (q_load1D ck_3 rfl) (fun _ h => h.subD) ?_
        refine D.all (rs := [5]) (by kernel_rfl) rfl (DAll.cons rfl (by kernel_rfl) (OpL.callD rfl (h := lk_AskX b19 kx a.who a.mode (by omega))) (.inr (by rintro _ _ ⟨_, ⟨rfl, rfl⟩, rfl⟩ w h; exact h.subD)) rfl ?_ DAll.nil)
        rintro _ _ ⟨_, ⟨rfl, rfl⟩, rfl⟩
        refine D.all (rs := [11]) (by kernel_rfl) rfl (DAll.cons rfl (by kernel_rfl) (OpL.callD rfl (h := rf_AskX b23 kx a.who a.mode (by omega))) (.inr (by rintro _ _ ⟨_, ⟨rfl, rfl⟩, rfl⟩ w h; exact h.subD)) rfl ?_ DAll.nil)
        rintro _ _ ⟨_, ⟨rfl, rfl⟩, rfl⟩
        refine D.q 12 rfl (by kernel_rfl) (by kernel_rfl) (q_bneF Try.underlying4 rfl rfl (rfl)) (fun _ h => h.subD) ?_
        refine D.done (by kernel_rfl) ?_
        refine K.no rfl ?_
        refine K.skip <| K.inBlock <| K.seq ?_
        obtain ⟨k', hk'⟩ : ∃ k', k' = (kx.ask a.who a.mode).2 := ⟨_, rfl⟩
        have hsk : k'.size ≤ i + 1 := by rw [hk']; exact Nat.le_trans (kx.ask_size _ _) (by omega)
        have hkk : k'.Ok := by rw [hk']; exact hok.ask _ _
        rw [← hk']
        refine K.drawS [pv b8 54 a.cells] (fun _ h => h.subD) mixed ?_
        refine D.q 0 rfl (by kernel_rfl) (by kernel_rfl) (q_move rfl) (fun _ h => h.subD) ?_
        refine D.q 2 rfl (by kernel_rfl) (by kernel_rfl) (q_move rfl) (fun _ h => h.subD) ?_
        refine D.all (rs := [1]) (by kernel_rfl) rfl (DAll.cons rfl (by kernel_rfl) (OpL.callD rfl (h := lk_HoldsX b19 k' (by omega))) (.inr (by rintro _ _ ⟨_, ⟨p3, d3, rfl, rfl⟩, rfl⟩ w h; exact h.subD)) rfl ?_ DAll.nil)
        rintro _ _ ⟨_, ⟨p3, d3, rfl, rfl⟩, rfl⟩
        refine D.all (rs := [3]) (by kernel_rfl) rfl (DAll.cons rfl (by kernel_rfl) (OpL.callD rfl (h := rf_HoldsX b23 k' hkk (by omega))) (.inl (by kernel_rfl)) rfl ?_ DAll.nil)
        rintro _ _ ⟨_, ⟨p4, d4, rfl, rfl⟩, rfl⟩
        have hho := k'.holds_len
        refine D.all (rs := [4]) (by kernel_rfl) rfl (DAll.cons rfl (by kernel_rfl) (OpL.callD rfl (h := rf_SameHolds (RowO Kd.hold 60 p3 d3 _) (RowO Kd.hold 60 p4 d4 _) p3 p4 d3 d4 k'.holds k'.holds isO isO (by omega) (by omega))) (.inl (by kernel_rfl)) rfl ?_ DAll.nil)
        rintro _ _ ⟨_, ⟨rfl, rfl⟩, rfl⟩
        rw [decide_eq_true rfl]
        refine D.q 5 rfl (by kernel_rfl) (by kernel_rfl) (q_not rfl) (fun _ h => h.subD) ?_
        refine D.q 6 rfl (by kernel_rfl) (by kernel_rfl) (q_move rfl) (fun _ h => h.subD) ?_
        refine D.q 7 rfl (by kernel_rfl) (by kernel_rfl) (q_move rfl) (fun _ h => h.subD) ?_
        refine D.q 8 rfl (by kernel_rfl) (by kernel_rfl) (q_field fo_54_1 rfl) (fun _ h => h.subD) ?_
        refine D.q 9 rfl (by kernel_rfl) (by kernel_rfl) (q_load1D ck_3 rfl) (fun _ h => h.subD) ?_
        refine D.q 11 rfl (by kernel_rfl) (by kernel_rfl) (q_move rfl) (fun _ h => h.subD) ?_
        refine D.q 12 rfl (by kernel_rfl) (by kernel_rfl) (q_field fo_54_1 rfl) (fun _ h => h.subD) ?_
        refine D.q 13 rfl (by kernel_rfl) (by kernel_rfl) (q_load1D ck_3 rfl) (fun _ h => h.subD) ?_
        refine D.all (rs := [10]) (by kernel_rfl) rfl (DAll.cons rfl (by kernel_rfl) (OpL.callD rfl (h := lk_WaitsX b19 k' a.who (by omega))) (.inr (by rintro _ _ ⟨_, ⟨p5, d5, rfl, rfl⟩, rfl⟩ w h; exact h.subD)) rfl ?_ DAll.nil)
        rintro _ _ ⟨_, ⟨p5, d5, rfl, rfl⟩, rfl⟩
        refine D.all (rs := [14]) (by kernel_rfl) rfl (DAll.cons rfl (by kernel_rfl) (OpL.callD rfl (h := rf_WaitsX b23 k' a.who (by omega))) (.inr (by rintro _ _ ⟨_, ⟨p6, d6, rfl, rfl⟩, rfl⟩ w h; exact h.subD)) rfl ?_ DAll.nil)
        rintro _ _ ⟨_, ⟨p6, d6, rfl, rfl⟩, rfl⟩
        have hwo : (k'.waits a.who).length ≤ k'.size := k'.waits_len a.who
        refine D.all (rs := [15]) (by kernel_rfl) rfl (DAll.cons rfl (by kernel_rfl) (OpL.callD rfl (h := rf_SameInts (RowO (Kd.int .i64) 3 p5 d5 _) (RowO (Kd.int .i64) 3 p6 d6 _) p5 p6 d5 d6 (k'.waits a.who) (k'.waits a.who) isO isO (by omega) (by omega))) (.inr (by rintro _ _ ⟨_, ⟨rfl, rfl⟩, rfl⟩ w h; exact h.subD)) rfl ?_ DAll.nil)
        rintro _ _ ⟨_, ⟨rfl, rfl⟩, rfl⟩
        rw [decide_eq_true rfl]
        refine D.q 16 rfl (by kernel_rfl) (by kernel_rfl) (q_not rfl) (fun _ h => h.subD) ?_
        refine D.q 17 rfl (by kernel_rfl) (by kernel_rfl) (q_pickF rfl rfl) (fun _ h => h.subD) ?_
        refine D.done (by kernel_rfl) ?_
        refine K.no rfl ?_
        refine K.skip <| K.inBlock ?_
        refine K.region ?_
        refine KO.q rfl (q_move rfl) ?_
        refine KO.q rfl (q_add rfl rfl (by first | omega | (simp; omega)) (by first | omega | (simp; omega))) ?_
        refine KO.q rfl (q_assign rfl) ?_
        refine KO.done ?_
        exact K.weak (by repeat (first | exact Env.sub_nil _ | refine Env.sub_cons rfl ?_)) (fun w h => h.fitD) (ih ⟨(i + 1, k', (ko.ask i 5).2), by show i + 1 ≤ _; omega, hsk, by show (ko.ask i 5).2.size ≤ i + 1; omega, hkk⟩ (by show l.length - (i + 1) < l.length - i; omega))
      · refine K.seq ?_
        refine K.region ?_
        refine KO.q rfl (q_eq rfl rfl) ?_
        refine KO.q rfl (q_assign rfl) ?_
        refine KO.done ?_
        refine K.dcond (s := 54) rfl (fun g54 => ?_) (fun g54 => ?_)
        · refine K.seq ?_
          refine K.drawS [pv b8 54 a.cells] (fun _ h => h.subD) mixed ?_
          refine D.q 0 rfl (by kernel_rfl) (by kernel_rfl) (q_move rfl) (fun _ h => h.subD) ?_
          refine D.q 1 rfl (by kernel_rfl) (by kernel_rfl) (q_field fo_54_1 rfl) (fun _ h => h.subD) ?_
          refine D.q 2 rfl (by kernel_rfl) (by kernel_rfl) (q_load1D ck_3 rfl) (fun _ h => h.subD) ?_
          refine D.q 4 rfl (by kernel_rfl) (by kernel_rfl) (q_move rfl) (fun _ h => h.subD) ?_
          refine D.q 5 rfl (by kernel_rfl) (by kernel_rfl) (q_field fo_54_1 rfl) (fun _ h => h.subD) ?_
          refine D.q 6 rfl (by kernel_rfl) (by kernel_rfl) (q_load1D ck_3 rfl) (fun _ h => h.subD) ?_
          refine D.all (rs := [3]) (by kernel_rfl) rfl (DAll.cons rfl (by kernel_rfl) (OpL.callD rfl (h := lk_DropX b19 kx a.who (by omega))) (.inr (by rintro _ _ ⟨_, ⟨p1, d1, rfl, rfl⟩, rfl⟩ w h; exact h.subD)) rfl ?_ DAll.nil)
          rintro _ _ ⟨_, ⟨p1, d1, rfl, rfl⟩, rfl⟩
          refine D.all (rs := [7]) (by kernel_rfl) rfl (DAll.cons rfl (by kernel_rfl) (OpL.callD rfl (h := rf_DropX b23 kx a.who (by omega))) (.inr (by rintro _ _ ⟨_, ⟨p2, d2, rfl, rfl⟩, rfl⟩ w h; exact h.subD)) rfl ?_ DAll.nil)
          rintro _ _ ⟨_, ⟨p2, d2, rfl, rfl⟩, rfl⟩
          have hdo := kx.drop_out a.who
          refine D.all (rs := [8]) (by kernel_rfl) rfl (DAll.cons rfl (by kernel_rfl) (OpL.callD rfl (h := rf_SameInts (RowO (Kd.int .i64) 3 p1 d1 _) (RowO (Kd.int .i64) 3 p2 d2 _) p1 p2 d1 d2 (kx.drop a.who).1 (kx.drop a.who).1 isO isO (by omega) (by omega))) (.inr (by rintro _ _ ⟨_, ⟨rfl, rfl⟩, rfl⟩ w h; exact h.subD)) rfl ?_ DAll.nil)
          rintro _ _ ⟨_, ⟨rfl, rfl⟩, rfl⟩
          rw [decide_eq_true rfl]
          refine D.q 9 rfl (by kernel_rfl) (by kernel_rfl) (q_not rfl) (fun _ h => h.subD) ?_
          refine D.done (by kernel_rfl) ?_
          refine K.no rfl ?_
          refine K.skip <| K.inBlock <| K.seq ?_
          obtain ⟨k', hk'⟩ : ∃ k', k' = (kx.drop a.who).2 := ⟨_, rfl⟩
          have hsk : k'.size ≤ i + 1 := by rw [hk']; exact Nat.le_trans (kx.drop_size _) (by omega)
          have hkk : k'.Ok := by rw [hk']; exact hok.drop _
          rw [← hk']
          refine K.drawS [pv b8 54 a.cells] (fun _ h => h.subD) mixed ?_
          refine D.q 0 rfl (by kernel_rfl) (by kernel_rfl) (q_move rfl) (fun _ h => h.subD) ?_
          refine D.q 2 rfl (by kernel_rfl) (by kernel_rfl) (q_move rfl) (fun _ h => h.subD) ?_
          refine D.all (rs := [1]) (by kernel_rfl) rfl (DAll.cons rfl (by kernel_rfl) (OpL.callD rfl (h := lk_HoldsX b19 k' (by omega))) (.inr (by rintro _ _ ⟨_, ⟨p3, d3, rfl, rfl⟩, rfl⟩ w h; exact h.subD)) rfl ?_ DAll.nil)
          rintro _ _ ⟨_, ⟨p3, d3, rfl, rfl⟩, rfl⟩
          refine D.all (rs := [3]) (by kernel_rfl) rfl (DAll.cons rfl (by kernel_rfl) (OpL.callD rfl (h := rf_HoldsX b23 k' hkk (by omega))) (.inl (by kernel_rfl)) rfl ?_ DAll.nil)
          rintro _ _ ⟨_, ⟨p4, d4, rfl, rfl⟩, rfl⟩
          have hho := k'.holds_len
          refine D.all (rs := [4]) (by kernel_rfl) rfl (DAll.cons rfl (by kernel_rfl) (OpL.callD rfl (h := rf_SameHolds (RowO Kd.hold 60 p3 d3 _) (RowO Kd.hold 60 p4 d4 _) p3 p4 d3 d4 k'.holds k'.holds isO isO (by omega) (by omega))) (.inl (by kernel_rfl)) rfl ?_ DAll.nil)
          rintro _ _ ⟨_, ⟨rfl, rfl⟩, rfl⟩
          rw [decide_eq_true rfl]
          refine D.q 5 rfl (by kernel_rfl) (by kernel_rfl) (q_not rfl) (fun _ h => h.subD) ?_
          refine D.q 6 rfl (by kernel_rfl) (by kernel_rfl) (q_move rfl) (fun _ h => h.subD) ?_
          refine D.q 7 rfl (by kernel_rfl) (by kernel_rfl) (q_move rfl) (fun _ h => h.subD) ?_
          refine D.q 8 rfl (by kernel_rfl) (by kernel_rfl) (q_field fo_54_1 rfl) (fun _ h => h.subD) ?_
          refine D.q 9 rfl (by kernel_rfl) (by kernel_rfl) (q_load1D ck_3 rfl) (fun _ h => h.subD) ?_
          refine D.q 11 rfl (by kernel_rfl) (by kernel_rfl) (q_move rfl) (fun _ h => h.subD) ?_
          refine D.q 12 rfl (by kernel_rfl) (by kernel_rfl) (q_field fo_54_1 rfl) (fun _ h => h.subD) ?_
          refine D.q 13 rfl (by kernel_rfl) (by kernel_rfl) (q_load1D ck_3 rfl) (fun _ h => h.subD) ?_
          refine D.all (rs := [10]) (by kernel_rfl) rfl (DAll.cons rfl (by kernel_rfl) (OpL.callD rfl (h := lk_WaitsX b19 k' a.who (by omega))) (.inr (by rintro _ _ ⟨_, ⟨p5, d5, rfl, rfl⟩, rfl⟩ w h; exact h.subD)) rfl ?_ DAll.nil)
          rintro _ _ ⟨_, ⟨p5, d5, rfl, rfl⟩, rfl⟩
          refine D.all (rs := [14]) (by kernel_rfl) rfl (DAll.cons rfl (by kernel_rfl) (OpL.callD rfl (h := rf_WaitsX b23 k' a.who (by omega))) (.inr (by rintro _ _ ⟨_, ⟨p6, d6, rfl, rfl⟩, rfl⟩ w h; exact h.subD)) rfl ?_ DAll.nil)
          rintro _ _ ⟨_, ⟨p6, d6, rfl, rfl⟩, rfl⟩
          have hwo : (k'.waits a.who).length ≤ k'.size := k'.waits_len a.who
          refine D.all (rs := [15]) (by kernel_rfl) rfl (DAll.cons rfl (by kernel_rfl) (OpL.callD rfl (h := rf_SameInts (RowO (Kd.int .i64) 3 p5 d5 _) (RowO (Kd.int .i64) 3 p6 d6 _) p5 p6 d5 d6 (k'.waits a.who) (k'.waits a.who) isO isO (by omega) (by omega))) (.inr (by rintro _ _ ⟨_, ⟨rfl, rfl⟩, rfl⟩ w h; exact h.subD)) rfl ?_ DAll.nil)
          rintro _ _ ⟨_, ⟨rfl, rfl⟩, rfl⟩
          rw [decide_eq_true rfl]
          refine D.q 16 rfl (by kernel_rfl) (by kernel_rfl) (q_not rfl) (fun _ h => h.subD) ?_
          refine D.q 17 rfl (by kernel_rfl) (by kernel_rfl) (q_pickF rfl rfl) (fun _ h => h.subD) ?_
          refine D.done (by kernel_rfl) ?_
          refine K.no rfl ?_
          refine K.skip <| K.inBlock ?_
          refine K.region ?_
          refine KO.q rfl (q_move rfl) ?_
          refine KO.q rfl (q_add rfl rfl (by first | omega | (simp; omega)) (by first | omega | (simp; omega))) ?_
          refine KO.q rfl (q_assign rfl) ?_
          refine KO.done ?_
          exact K.weak (by repeat (first | exact Env.sub_nil _ | refine Env.sub_cons rfl ?_)) (fun w h => h.fitD) (ih ⟨(i + 1, k', (ko.ask i 5).2), by show i + 1 ≤ _; omega, hsk, by show (ko.ask i 5).2.size ≤ i + 1; omega, hkk⟩ (by show l.length - (i + 1) < l.length - i; omega))
        · refine K.skip <| K.inBlock <| K.seq ?_
          obtain ⟨k', hk'⟩ : ∃ k', k' = kx := ⟨_, rfl⟩
          have hsk : k'.size ≤ i + 1 := by rw [hk']; omega
          have hkk : k'.Ok := by rw [hk']; exact hok
          rw [← hk']
          refine K.drawS [pv b8 54 a.cells] (fun _ h => h.subD) mixed ?_
          refine D.q 0 rfl (by kernel_rfl) (by kernel_rfl) (q_move rfl) (fun _ h => h.subD) ?_
          refine D.q 2 rfl (by kernel_rfl) (by kernel_rfl) (q_move rfl) (fun _ h => h.subD) ?_
          refine D.all (rs := [1]) (by kernel_rfl) rfl (DAll.cons rfl (by kernel_rfl) (OpL.callD rfl (h := lk_HoldsX b19 k' (by omega))) (.inr (by rintro _ _ ⟨_, ⟨p3, d3, rfl, rfl⟩, rfl⟩ w h; exact h.subD)) rfl ?_ DAll.nil)
          rintro _ _ ⟨_, ⟨p3, d3, rfl, rfl⟩, rfl⟩
          refine D.all (rs := [3]) (by kernel_rfl) rfl (DAll.cons rfl (by kernel_rfl) (OpL.callD rfl (h := rf_HoldsX b23 k' hkk (by omega))) (.inl (by kernel_rfl)) rfl ?_ DAll.nil)
          rintro _ _ ⟨_, ⟨p4, d4, rfl, rfl⟩, rfl⟩
          have hho := k'.holds_len
          refine D.all (rs := [4]) (by kernel_rfl) rfl (DAll.cons rfl (by kernel_rfl) (OpL.callD rfl (h := rf_SameHolds (RowO Kd.hold 60 p3 d3 _) (RowO Kd.hold 60 p4 d4 _) p3 p4 d3 d4 k'.holds k'.holds isO isO (by omega) (by omega))) (.inl (by kernel_rfl)) rfl ?_ DAll.nil)
          rintro _ _ ⟨_, ⟨rfl, rfl⟩, rfl⟩
          rw [decide_eq_true rfl]
          refine D.q 5 rfl (by kernel_rfl) (by kernel_rfl) (q_not rfl) (fun _ h => h.subD) ?_
          refine D.q 6 rfl (by kernel_rfl) (by kernel_rfl) (q_move rfl) (fun _ h => h.subD) ?_
          refine D.q 7 rfl (by kernel_rfl) (by kernel_rfl) (q_move rfl) (fun _ h => h.subD) ?_
          refine D.q 8 rfl (by kernel_rfl) (by kernel_rfl) (q_field fo_54_1 rfl) (fun _ h => h.subD) ?_
          refine D.q 9 rfl (by kernel_rfl) (by kernel_rfl) (q_load1D ck_3 rfl) (fun _ h => h.subD) ?_
          refine D.q 11 rfl (by kernel_rfl) (by kernel_rfl) (q_move rfl) (fun _ h => h.subD) ?_
          refine D.q 12 rfl (by kernel_rfl) (by kernel_rfl) (q_field fo_54_1 rfl) (fun _ h => h.subD) ?_
          refine D.q 13 rfl (by kernel_rfl) (by kernel_rfl) (q_load1D ck_3 rfl) (fun _ h => h.subD) ?_
          refine D.all (rs := [10]) (by kernel_rfl) rfl (DAll.cons rfl (by kernel_rfl) (OpL.callD rfl (h := lk_WaitsX b19 k' a.who (by omega))) (.inr (by rintro _ _ ⟨_, ⟨p5, d5, rfl, rfl⟩, rfl⟩ w h; exact h.subD)) rfl ?_ DAll.nil)
          rintro _ _ ⟨_, ⟨p5, d5, rfl, rfl⟩, rfl⟩
          refine D.all (rs := [14]) (by kernel_rfl) rfl (DAll.cons rfl (by kernel_rfl) (OpL.callD rfl (h := rf_WaitsX b23 k' a.who (by omega))) (.inr (by rintro _ _ ⟨_, ⟨p6, d6, rfl, rfl⟩, rfl⟩ w h; exact h.subD)) rfl ?_ DAll.nil)
          rintro _ _ ⟨_, ⟨p6, d6, rfl, rfl⟩, rfl⟩
          have hwo : (k'.waits a.who).length ≤ k'.size := k'.waits_len a.who
          refine D.all (rs := [15]) (by kernel_rfl) rfl (DAll.cons rfl (by kernel_rfl) (OpL.callD rfl (h := rf_SameInts (RowO (Kd.int .i64) 3 p5 d5 _) (RowO (Kd.int .i64) 3 p6 d6 _) p5 p6 d5 d6 (k'.waits a.who) (k'.waits a.who) isO isO (by omega) (by omega))) (.inr (by rintro _ _ ⟨_, ⟨rfl, rfl⟩, rfl⟩ w h; exact h.subD)) rfl ?_ DAll.nil)
          rintro _ _ ⟨_, ⟨rfl, rfl⟩, rfl⟩
          rw [decide_eq_true rfl]
          refine D.q 16 rfl (by kernel_rfl) (by kernel_rfl) (q_not rfl) (fun _ h => h.subD) ?_
          refine D.q 17 rfl (by kernel_rfl) (by kernel_rfl) (q_pickF rfl rfl) (fun _ h => h.subD) ?_
          refine D.done (by kernel_rfl) ?_
          refine K.no rfl ?_
          refine K.skip <| K.inBlock ?_
          refine K.region ?_
          refine KO.q rfl (q_move rfl) ?_
          refine KO.q rfl (q_add rfl rfl (by first | omega | (simp; omega)) (by first | omega | (simp; omega))) ?_
          refine KO.q rfl (q_assign rfl) ?_
          refine KO.done ?_
          exact K.weak (by repeat (first | exact Env.sub_nil _ | refine Env.sub_cons rfl ?_)) (fun w h => h.fitD) (ih ⟨(i + 1, k', (ko.ask i 5).2), by show i + 1 ≤ _; omega, hsk, by show (ko.ask i 5).2.size ≤ i + 1; omega, hkk⟩ (by show l.length - (i + 1) < l.length - i; omega))
    · refine K.exit rfl ?_
      refine K.seq ?_
      refine K.region ?_
      refine KO.q rfl (q_assign rfl) ?_
      refine KO.done ?_
      refine K.ret (fn := Try.f8) Try.func8 (fun a w hk hs => res1 Try.results8 hk rfl) (fun w hs => ?_)
      exact ⟨_, [], rfl, ⟨rfl, rfl⟩, hs.fitD⟩
end Go.Proofs.Ytfpkeanimkgpaaa.L
