/- Walks: the document's table of locks: where a name is, how many there are, who waits, what somebody holds. -/
import Derived.Test.YtcpkcjabmookmaaGreatPU
namespace Go.Proofs.YtcpkcjabmookmaaGreat.L
open Go Go.Proofs
attribute [local irreducible] pv fv pt fz RowF RowO rowP old pure_ elA
set_option maxRecDepth 100000
set_option linter.unusedSimpArgs false
set_option linter.unusedVariables false

--%rec posteref10.entry E
--%kd posteref10.entry Kd.e
--%sub posteref10.entry api.Name 0 sub_e_name nm_sz
def RkE (e : E) : HP := HP.ex (fun b : { b : Nat // e.p = some b } => [RkX b.1 e.k])
abbrev TrE (t : Nat) (q : Option Addr) (c : Nat) (es : List E) : List HP := [pv t 29 [.slice q es.length c], RowO Kd.e 79 q c es]
theorem tr_open {es : List E} {i : Nat} {e : E} {ρ : World} {L : List HP} {w : World} (he : es[i]? = some e) (h : St ρ (AllO RkE es :: L) w) : ∃ b : { b : Nat // e.p = some b }, St ρ (RkX b.1 e.k :: AllO RkE (es.eraseIdx i) :: L) w := St.exO (f := fun b : { b : Nat // e.p = some b } => [RkX b.1 e.k]) (allO_out (f := RkE) he h)
theorem tr_close {es : List E} {i : Nat} {e : E} {b : Nat} {ρ : World} {L : List HP} {w : World} (hb : e.p = some b) (hi : i < es.length) (h : St ρ (RkX b e.k :: AllO RkE (es.eraseIdx i) :: L) w) : St ρ (AllO RkE (es.set i e) :: L) w :=
  allO_put (pick_map_set RkE hi) (St.exI (f := fun b : { b : Nat // e.p = some b } => [RkX b.1 e.k]) ⟨b, hb⟩ h)
theorem tr_back {es : List E} {i : Nat} {e : E} {b : Nat} {ρ : World} {L : List HP} {w : World} (he : es[i]? = some e) (hb : e.p = some b) (h : St ρ (RkX b e.k :: AllO RkE (es.eraseIdx i) :: L) w) : St ρ (AllO RkE es :: L) w := by
  have := tr_close hb (List.getElem?_eq_some_iff.1 he).1 h
  rwa [set_self he] at this
/-- An entry's lock, its rows told. -/
theorem tr_openL {es : List E} {i : Nat} {e : E} {ρ : World} {L : List HP} {w : World} (he : es[i]? = some e) (h : St ρ (AllO RkE es :: L) w) : ∃ a : { b : Nat // e.p = some b } × Ad4, St ρ (RkL a.1.1 a.2.1.1 a.2.1.2 a.2.2.1 a.2.2.2 e.k ++ AllO RkE (es.eraseIdx i) :: L) w := by
  obtain ⟨b, h1⟩ := tr_open he h
  obtain ⟨a, h2⟩ := St.exO h1
  exact ⟨(b, a), h2⟩
theorem tr_backL {es : List E} {i : Nat} {e : E} {b : Nat} {q1 : Option Addr} {c1 : Nat} {q2 : Option Addr} {c2 : Nat} {ρ : World} {L : List HP} {w : World} (he : es[i]? = some e) (hb : e.p = some b) (h : St ρ (RkL b q1 c1 q2 c2 e.k ++ AllO RkE (es.eraseIdx i) :: L) w) : St ρ (AllO RkE es :: L) w :=
  tr_back he hb (St.exI (f := fun a : Ad4 => RkL b a.1.1 a.1.2 a.2.1 a.2.2 e.k) ((q1, c1), (q2, c2)) h)
--%call poste/posteref10.plain := rf_plain _
theorem rf_plain (n : Nm) : Fn Tryz.prog 29 [.agg n.cells.toArray].toArray [] (fun r post => r = .agg n.plain.1.cells.toArray ∧ post = []) := by
  refine Fn.enter (N := 14) Tryz.func29 rfl Tryz.ntmps29 (by kernel_rfl) rfl (fun ρ L => ?_)
  refine K.seq ?_
  refine K.region ?_
  refine KO.loud rfl (l_box rfl rfl) ?_
  rintro _ _ ⟨b1, rfl, rfl⟩
  refine KO.loud rfl (l_alloc zo_31) ?_
  rintro _ _ ⟨b2, rfl, rfl⟩
  refine KO.done ?_
  refine K.seq <| K.seq ?_
  refine K.region ?_
  refine KO.q rfl (q_field fo_31_0 rfl) ?_
  refine KO.q rfl (q_load1D ck_3 rfl) ?_
  refine KO.done ?_
  refine K.block <| K.seq ?_
  refine K.region ?_
  refine KO.q rfl (q_eq rfl rfl) ?_
  refine KO.q rfl (q_assign rfl) ?_
  refine KO.done ?_
  refine K.dcond (s := 5) rfl (fun g5 => ?_) (fun g5 => ?_)
  · have hr : n.plain.1 = ⟨0, ⟨#[]⟩, ⟨#[]⟩⟩ := by unfold Nm.plain; rw [if_pos g5]
    refine K.seq ?_
    refine K.region ?_
    refine KO.q rfl (q_as_nm (q_build st_31 rfl (by repeat (first | exact Fill.nil | (apply Fill.cons; rfl; rfl; rfl) | exact SetN.nil | apply SetN.cons | exact SetAt.here | apply SetAt.there))) (by rfl)) ?_
    refine KO.loudN rfl (l_storeAll ck_31 rfl rfl ⟨rfl, rfl⟩ (nm_one _) (by repeat (first | exact Pick.here | apply Pick.there))) ?_
    rintro _ _ ⟨rfl, rfl⟩
    refine KO.done ?_
    refine K.ret (fn := Tryz.f29) Tryz.func29 (fun a w hk hs => resC Tryz.results29 hk rfl ck_31 rfl (cells_pv (by repeat (first | exact List.Mem.head _ | apply List.Mem.tail)) w hs)) (fun w hs => ?_)
    rw [hr]
    exact ⟨_, [], rfl, ⟨rfl, rfl⟩, hs.fitD⟩
  · refine K.seq ?_
    refine K.region ?_
    refine KO.q rfl (q_eq rfl rfl) ?_
    refine KO.q rfl (q_assign rfl) ?_
    refine KO.done ?_
    refine K.dcond (s := 8) rfl (fun g8 => ?_) (fun g8 => ?_)
    · have hr : n.plain.1 = ⟨1, n.object, ⟨#[]⟩⟩ := by unfold Nm.plain; rw [if_neg g5, if_pos g8]
      refine K.seq ?_
      refine K.region ?_
      refine KO.q rfl (q_field fo_31_1 rfl) ?_
      refine KO.q rfl (q_load1D ck_9 rfl) ?_
      refine KO.q rfl (q_as_nm (q_build st_31 rfl (by repeat (first | exact Fill.nil | (apply Fill.cons; rfl; rfl; rfl) | exact SetN.nil | apply SetN.cons | exact SetAt.here | apply SetAt.there))) (by rfl)) ?_
      refine KO.loudN rfl (l_storeAll ck_31 rfl rfl ⟨rfl, rfl⟩ (nm_one _) (by repeat (first | exact Pick.here | apply Pick.there))) ?_
      rintro _ _ ⟨rfl, rfl⟩
      refine KO.done ?_
      refine K.ret (fn := Tryz.f29) Tryz.func29 (fun a w hk hs => resC Tryz.results29 hk rfl ck_31 rfl (cells_pv (by repeat (first | exact List.Mem.head _ | apply List.Mem.tail)) w hs)) (fun w hs => ?_)
      rw [hr]
      exact ⟨_, [], rfl, ⟨rfl, rfl⟩, hs.fitD⟩
    · have hr : n.plain.1 = n := by unfold Nm.plain; rw [if_neg g5, if_neg g8]
      refine K.skip <| K.inBlock <| K.seq ?_
      refine K.region ?_
      refine KO.q rfl (q_loadN ck_31 rfl rfl (by first | (apply cells_pv; (repeat (first | exact List.Mem.head _ | apply List.Mem.tail))) | (apply cells_fv; (repeat (first | exact List.Mem.head _ | apply List.Mem.tail))))) ?_
      refine KO.loudN rfl (l_storeAll ck_31 rfl rfl ⟨rfl, rfl⟩ (nm_one _) (by repeat (first | exact Pick.here | apply Pick.there))) ?_
      rintro _ _ ⟨rfl, rfl⟩
      refine KO.done ?_
      refine K.ret (fn := Tryz.f29) Tryz.func29 (fun a w hk hs => resC Tryz.results29 hk rfl ck_31 rfl (cells_pv (by repeat (first | exact List.Mem.head _ | apply List.Mem.tail)) w hs)) (fun w hs => ?_)
      rw [hr]
      exact ⟨_, [], rfl, ⟨rfl, rfl⟩, hs.fitD⟩
--%call poste/posteref1.Keys := ref_Keys _ _ (by assumption) (by assumption)
theorem ref_Keys (a b : ByteArray) (ha : (a.size : Int) ≤ 9223372036854775807) (hb : (b.size : Int) ≤ 9223372036854775807) : Fn Tryz.prog 62 [.string a, .string b].toArray [] (fun r post => r = .int .i64 (cmpB a b) ∧ post = []) := by
  have la := bytesOf_length a
  have lb := bytesOf_length b
  refine Fn.enter (N := 44) Tryz.func62 rfl Tryz.ntmps62 (by kernel_rfl) rfl (fun ρ L => ?_)
  refine K.seq ?_
  refine K.region ?_
  refine KO.q rfl (q_assign rfl) ?_
  refine KO.done ?_
  refine K.seq <| K.seq ?_
  refine K.region ?_
  refine KO.q rfl (q_assign rfl) ?_
  refine KO.done ?_
  refine K.block ?_
  refine K.rloop (ι := { i : Nat // i ≤ a.size ∧ i ≤ b.size ∧ cmpB a b = cmpL ((bytesOf a).drop i) ((bytesOf b).drop i) }) (fun x => [(5, .int .i64 x.1), (0, .string a), (1, .string b)]) (fun x => a.size - x.1) ⟨0, Nat.zero_le _, Nat.zero_le _, rfl⟩ (by repeat (first | exact Env.sub_nil _ | refine Env.sub_cons rfl ?_)) (fun x ih => ?_)
  obtain ⟨i, hi, hi2, hc⟩ := x
  dsimp only at hi hi2 hc ⊢
  refine K.seq <| K.seq ?_
  refine K.region ?_
  refine KO.q rfl (q_move rfl) ?_
  refine KO.q rfl (q_move rfl) ?_
  refine KO.q rfl (q_lenS Tryz.underlying9 rfl) ?_
  refine KO.q rfl (q_lt rfl rfl) ?_
  refine KO.q rfl (q_move rfl) ?_
  refine KO.dsplit 10 rfl (fun g10 => ?_) (fun g10 => ?_)
  · refine KO.q rfl (q_move rfl) ?_
    refine KO.q rfl (q_move rfl) ?_
    refine KO.q rfl (q_lenS Tryz.underlying9 rfl) ?_
    refine KO.q rfl (q_lt rfl rfl) ?_
    refine KO.q rfl (q_pickT rfl rfl) ?_
    refine KO.done ?_
    refine K.dcond (s := 15) rfl (fun g15 => ?_) (fun g15 => ?_)
    · obtain ⟨x, hx⟩ : ∃ e, (bytesOf a)[i]? = some e := ⟨_, List.getElem?_eq_getElem (by omega)⟩
      obtain ⟨y, hy⟩ : ∃ e, (bytesOf b)[i]? = some e := ⟨_, List.getElem?_eq_getElem (by omega)⟩
      have ex : (bytesOf a).drop i = x :: (bytesOf a).drop (i + 1) := by
        obtain ⟨h1, h2⟩ := List.getElem?_eq_some_iff.1 hx
        rw [← h2, List.getElem_cons_drop h1]
      have ey : (bytesOf b).drop i = y :: (bytesOf b).drop (i + 1) := by
        obtain ⟨h1, h2⟩ := List.getElem?_eq_some_iff.1 hy
        rw [← h2, List.getElem_cons_drop h1]
      rw [ex, ey] at hc
      unfold cmpL at hc
      refine K.skip <| K.seq <| K.block <| K.seq <| K.seq ?_
      refine K.draw [] mixed ?_
      refine D.q 0 rfl (by kernel_rfl) (by kernel_rfl) (q_move rfl) (fun _ h => h.nil) ?_
      refine D.q 1 rfl (by kernel_rfl) (by kernel_rfl) (q_move rfl) (fun _ h => h.nil) ?_
      refine D.q 2 rfl (by kernel_rfl) (by kernel_rfl) (q_six Tryz.underlying9 rfl rfl rfl (by assumption)) (fun _ h => h.nil) ?_
      refine D.q 3 rfl (by kernel_rfl) (by kernel_rfl) (q_move rfl) (fun _ h => h.nil) ?_
      refine D.q 4 rfl (by kernel_rfl) (by kernel_rfl) (q_move rfl) (fun _ h => h.nil) ?_
      refine D.q 5 rfl (by kernel_rfl) (by kernel_rfl) (q_six Tryz.underlying9 rfl rfl rfl (by assumption)) (fun _ h => h.nil) ?_
      refine D.q 6 rfl (by kernel_rfl) (by kernel_rfl) (q_lt rfl rfl) (fun _ h => h.nil) ?_
      refine D.done (by kernel_rfl) ?_
      refine K.dcond (s := 24) rfl (fun g24 => ?_) (fun g24 => ?_)
      · refine K.seq ?_
        have hr : cmpB a b = -1 := by rw [hc, if_pos (UInt8.lt_iff_toNat_lt.2 (by omega))]
        refine K.region ?_
        refine KO.q rfl (q_assign rfl) ?_
        refine KO.done ?_
        refine K.ret (fn := Tryz.f62) Tryz.func62 (fun a w hk hs => res1 Tryz.results62 hk rfl) (fun w hs => ?_)
        rw [hr]
        exact ⟨_, [], rfl, ⟨rfl, rfl⟩, hs.fitD⟩
      · refine K.skip <| K.seq ?_
        refine K.draw [] mixed ?_
        refine D.q 0 rfl (by kernel_rfl) (by kernel_rfl) (q_move rfl) (fun _ h => h.nil) ?_
        refine D.q 1 rfl (by kernel_rfl) (by kernel_rfl) (q_move rfl) (fun _ h => h.nil) ?_
        refine D.q 2 rfl (by kernel_rfl) (by kernel_rfl) (q_six Tryz.underlying9 rfl rfl rfl (by assumption)) (fun _ h => h.nil) ?_
        refine D.q 3 rfl (by kernel_rfl) (by kernel_rfl) (q_move rfl) (fun _ h => h.nil) ?_
        refine D.q 4 rfl (by kernel_rfl) (by kernel_rfl) (q_move rfl) (fun _ h => h.nil) ?_
        refine D.q 5 rfl (by kernel_rfl) (by kernel_rfl) (q_six Tryz.underlying9 rfl rfl rfl (by assumption)) (fun _ h => h.nil) ?_
        refine D.q 6 rfl (by kernel_rfl) (by kernel_rfl) (q_gt rfl rfl) (fun _ h => h.nil) ?_
        refine D.done (by kernel_rfl) ?_
        refine K.dcond (s := 31) rfl (fun g31 => ?_) (fun g31 => ?_)
        · refine K.seq ?_
          have hr : cmpB a b = 1 := by rw [hc, if_neg (fun h => g24 (by have := UInt8.lt_iff_toNat_lt.1 h; omega)), if_pos (UInt8.lt_iff_toNat_lt.2 (by omega))]
          refine K.region ?_
          refine KO.q rfl (q_assign rfl) ?_
          refine KO.done ?_
          refine K.ret (fn := Tryz.f62) Tryz.func62 (fun a w hk hs => res1 Tryz.results62 hk rfl) (fun w hs => ?_)
          rw [hr]
          exact ⟨_, [], rfl, ⟨rfl, rfl⟩, hs.fitD⟩
        · refine K.skip <| K.inBlock ?_
          refine K.region ?_
          refine KO.q rfl (q_move rfl) ?_
          refine KO.q rfl (q_add rfl rfl (by first | omega | (simp; omega)) (by first | omega | (simp; omega))) ?_
          refine KO.q rfl (q_assign rfl) ?_
          refine KO.done ?_
          have hr : cmpB a b = cmpL ((bytesOf a).drop (i + 1)) ((bytesOf b).drop (i + 1)) := by rw [hc, if_neg (fun h => g24 (by have := UInt8.lt_iff_toNat_lt.1 h; omega)), if_neg (fun h => g31 (by have := UInt8.lt_iff_toNat_lt.1 h; omega))]
          exact K.subE (by repeat (first | exact Env.sub_nil _ | refine Env.sub_cons rfl ?_)) (ih ⟨i + 1, by omega, by omega, hr⟩ (by show a.size - (i + 1) < a.size - i; omega))
    · refine K.exit rfl ?_
      refine K.seq <| K.block <| K.seq ?_
      refine K.region ?_
      refine KO.q rfl (q_move rfl) ?_
      refine KO.q rfl (q_lenS Tryz.underlying9 rfl) ?_
      refine KO.q rfl (q_move rfl) ?_
      refine KO.q rfl (q_lenS Tryz.underlying9 rfl) ?_
      refine KO.q rfl (q_lt rfl rfl) ?_
      refine KO.q rfl (q_assign rfl) ?_
      refine KO.done ?_
      refine K.dcond (s := 32) rfl (fun g32 => ?_) (fun g32 => ?_)
      · refine K.seq ?_
        have hr : cmpB a b = -1 := by
          rw [hc, List.drop_eq_nil_of_le (by omega : (bytesOf a).length ≤ i)]
          exact cmpL_nilL (fun hd => by have := congrArg List.length hd; simp at this; omega)
        refine K.region ?_
        refine KO.q rfl (q_assign rfl) ?_
        refine KO.done ?_
        refine K.ret (fn := Tryz.f62) Tryz.func62 (fun a w hk hs => res1 Tryz.results62 hk rfl) (fun w hs => ?_)
        rw [hr]
        exact ⟨_, [], rfl, ⟨rfl, rfl⟩, hs.fitD⟩
      · refine K.seq ?_
        refine K.region ?_
        refine KO.q rfl (q_move rfl) ?_
        refine KO.q rfl (q_lenS Tryz.underlying9 rfl) ?_
        refine KO.q rfl (q_move rfl) ?_
        refine KO.q rfl (q_lenS Tryz.underlying9 rfl) ?_
        refine KO.q rfl (q_gt rfl rfl) ?_
        refine KO.q rfl (q_assign rfl) ?_
        refine KO.done ?_
        refine K.dcond (s := 38) rfl (fun g38 => ?_) (fun g38 => ?_)
        · refine K.seq ?_
          have hr : cmpB a b = 1 := by
            rw [hc, List.drop_eq_nil_of_le (by omega : (bytesOf b).length ≤ i)]
            exact cmpL_nilR (fun hd => by have := congrArg List.length hd; simp at this; omega)
          refine K.region ?_
          refine KO.q rfl (q_assign rfl) ?_
          refine KO.done ?_
          refine K.ret (fn := Tryz.f62) Tryz.func62 (fun a w hk hs => res1 Tryz.results62 hk rfl) (fun w hs => ?_)
          rw [hr]
          exact ⟨_, [], rfl, ⟨rfl, rfl⟩, hs.fitD⟩
        · refine K.skip <| K.inBlock <| K.seq ?_
          have hr : cmpB a b = 0 := by
            rw [hc, List.drop_eq_nil_of_le (by omega : (bytesOf b).length ≤ i), List.drop_eq_nil_of_le (by omega : (bytesOf a).length ≤ i)]
            rfl
          refine K.region ?_
          refine KO.q rfl (q_assign rfl) ?_
          refine KO.done ?_
          refine K.ret (fn := Tryz.f62) Tryz.func62 (fun a w hk hs => res1 Tryz.results62 hk rfl) (fun w hs => ?_)
          rw [hr]
          exact ⟨_, [], rfl, ⟨rfl, rfl⟩, hs.fitD⟩
  · refine KO.skip rfl ?_
    refine KO.skip rfl ?_
    refine KO.skip rfl ?_
    refine KO.skip rfl ?_
    refine KO.q rfl (q_pickF rfl rfl) ?_
    refine KO.done ?_
    refine K.no rfl ?_
    refine K.exit rfl ?_
    refine K.seq <| K.block <| K.seq ?_
    refine K.region ?_
    refine KO.q rfl (q_move rfl) ?_
    refine KO.q rfl (q_lenS Tryz.underlying9 rfl) ?_
    refine KO.q rfl (q_move rfl) ?_
    refine KO.q rfl (q_lenS Tryz.underlying9 rfl) ?_
    refine KO.q rfl (q_lt rfl rfl) ?_
    refine KO.q rfl (q_assign rfl) ?_
    refine KO.done ?_
    refine K.dcond (s := 32) rfl (fun g32 => ?_) (fun g32 => ?_)
    · refine K.seq ?_
      have hr : cmpB a b = -1 := by
        rw [hc, List.drop_eq_nil_of_le (by omega : (bytesOf a).length ≤ i)]
        exact cmpL_nilL (fun hd => by have := congrArg List.length hd; simp at this; omega)
      refine K.region ?_
      refine KO.q rfl (q_assign rfl) ?_
      refine KO.done ?_
      refine K.ret (fn := Tryz.f62) Tryz.func62 (fun a w hk hs => res1 Tryz.results62 hk rfl) (fun w hs => ?_)
      rw [hr]
      exact ⟨_, [], rfl, ⟨rfl, rfl⟩, hs.fitD⟩
    · refine K.seq ?_
      refine K.region ?_
      refine KO.q rfl (q_move rfl) ?_
      refine KO.q rfl (q_lenS Tryz.underlying9 rfl) ?_
      refine KO.q rfl (q_move rfl) ?_
      refine KO.q rfl (q_lenS Tryz.underlying9 rfl) ?_
      refine KO.q rfl (q_gt rfl rfl) ?_
      refine KO.q rfl (q_assign rfl) ?_
      refine KO.done ?_
      refine K.dcond (s := 38) rfl (fun g38 => ?_) (fun g38 => ?_)
      · refine K.seq ?_
        have hr : cmpB a b = 1 := by
          rw [hc, List.drop_eq_nil_of_le (by omega : (bytesOf b).length ≤ i)]
          exact cmpL_nilR (fun hd => by have := congrArg List.length hd; simp at this; omega)
        refine K.region ?_
        refine KO.q rfl (q_assign rfl) ?_
        refine KO.done ?_
        refine K.ret (fn := Tryz.f62) Tryz.func62 (fun a w hk hs => res1 Tryz.results62 hk rfl) (fun w hs => ?_)
        rw [hr]
        exact ⟨_, [], rfl, ⟨rfl, rfl⟩, hs.fitD⟩
      · refine K.skip <| K.inBlock <| K.seq ?_
        have hr : cmpB a b = 0 := by
          rw [hc, List.drop_eq_nil_of_le (by omega : (bytesOf b).length ≤ i), List.drop_eq_nil_of_le (by omega : (bytesOf a).length ≤ i)]
          rfl
        refine K.region ?_
        refine KO.q rfl (q_assign rfl) ?_
        refine KO.done ?_
        refine K.ret (fn := Tryz.f62) Tryz.func62 (fun a w hk hs => res1 Tryz.results62 hk rfl) (fun w hs => ?_)
        rw [hr]
        exact ⟨_, [], rfl, ⟨rfl, rfl⟩, hs.fitD⟩
--%call poste/posteref10.ahead := rf_ahead _ _ (by assumption) (by assumption)
theorem rf_ahead (a b : Nm) (ha : a.fits) (hb : b.fits) : Fn Tryz.prog 33 [.agg a.cells.toArray, .agg b.cells.toArray].toArray [] (fun r post => r = .bool (decide (cmpN a b < 0)) ∧ post = []) := by
  obtain ⟨_, ha2, ha3⟩ := ha
  obtain ⟨_, hb2, hb3⟩ := hb
  refine Fn.enter (N := 34) Tryz.func33 rfl Tryz.ntmps33 (by kernel_rfl) rfl (fun ρ L => ?_)
  refine K.seq ?_
  refine K.region ?_
  refine KO.loud rfl (l_box rfl rfl) ?_
  rintro _ _ ⟨b2, rfl, rfl⟩
  refine KO.loud rfl (l_box rfl rfl) ?_
  rintro _ _ ⟨b3, rfl, rfl⟩
  refine KO.q rfl (q_assign rfl) ?_
  refine KO.done ?_
  refine K.seq <| K.block <| K.seq ?_
  refine K.region ?_
  refine KO.q rfl (q_field fo_31_0 rfl) ?_
  refine KO.q rfl (q_load1D ck_3 rfl) ?_
  refine KO.q rfl (q_field fo_31_0 rfl) ?_
  refine KO.q rfl (q_load1D ck_3 rfl) ?_
  refine KO.q rfl (q_ne rfl rfl) ?_
  refine KO.q rfl (q_assign rfl) ?_
  refine KO.done ?_
  refine K.dcond (s := 5) rfl (fun g5 => ?_) (fun g5 => ?_)
  · have hr : decide (cmpN a b < 0) = decide (a.deep < b.deep) := by
      unfold cmpN
      rw [if_pos (by rw [Ne, cmpI_zero]; exact g5)]
      exact decide_eq_decide.2 cmpI_neg
    refine K.seq ?_
    refine K.region ?_
    refine KO.q rfl (q_field fo_31_0 rfl) ?_
    refine KO.q rfl (q_load1D ck_3 rfl) ?_
    refine KO.q rfl (q_field fo_31_0 rfl) ?_
    refine KO.q rfl (q_load1D ck_3 rfl) ?_
    refine KO.q rfl (q_lt rfl rfl) ?_
    refine KO.q rfl (q_assign rfl) ?_
    refine KO.done ?_
    refine K.ret (fn := Tryz.f33) Tryz.func33 (fun a w hk hs => res1 Tryz.results33 hk rfl) (fun w hs => ?_)
    rw [hr]
    exact ⟨_, [], rfl, ⟨rfl, rfl⟩, hs.fitD⟩
  · have h0 : cmpI a.deep b.deep = 0 := cmpI_zero.2 (by simpa using g5)
    refine K.seq ?_
    refine K.region ?_
    refine KO.q rfl (q_field fo_31_1 rfl) ?_
    refine KO.q rfl (q_load1D ck_9 rfl) ?_
    refine KO.q rfl (q_field fo_31_1 rfl) ?_
    refine KO.q rfl (q_load1D ck_9 rfl) ?_
    refine KO.q rfl (q_sne rfl rfl) ?_
    refine KO.q rfl (q_assign rfl) ?_
    refine KO.done ?_
    refine K.dcond (s := 16) rfl (fun g16 => ?_) (fun g16 => ?_)
    · have hr : decide (cmpN a b < 0) = decide (cmpB a.object b.object < 0) := by
        unfold cmpN
        rw [if_neg (by simp [h0]), if_pos (by rw [Ne, cmpB_zero]; exact g16)]
      refine K.seq ?_
      refine K.region ?_
      refine KO.q rfl (q_field fo_31_1 rfl) ?_
      refine KO.q rfl (q_load1D ck_9 rfl) ?_
      refine KO.q rfl (q_field fo_31_1 rfl) ?_
      refine KO.q rfl (q_load1D ck_9 rfl) ?_
      refine KO.loud rfl (OpL.callD rfl (h := ref_Keys _ _ (by assumption) (by assumption))) ?_
      rintro _ _ ⟨_, ⟨rfl, rfl⟩, rfl⟩
      refine KO.q rfl (q_lt rfl rfl) ?_
      refine KO.q rfl (q_assign rfl) ?_
      refine KO.done ?_
      refine K.ret (fn := Tryz.f33) Tryz.func33 (fun a w hk hs => res1 Tryz.results33 hk rfl) (fun w hs => ?_)
      rw [hr]
      exact ⟨_, [], rfl, ⟨rfl, rfl⟩, hs.fitD⟩
    · have hr : decide (cmpN a b < 0) = decide (cmpB a.row b.row < 0) := by
        unfold cmpN
        rw [if_neg (by simp [h0]), if_neg (by rw [Ne, cmpB_zero]; exact fun h => h (by simpa using g16))]
      refine K.skip <| K.inBlock <| K.seq ?_
      refine K.region ?_
      refine KO.q rfl (q_field fo_31_2 rfl) ?_
      refine KO.q rfl (q_load1D ck_9 rfl) ?_
      refine KO.q rfl (q_field fo_31_2 rfl) ?_
      refine KO.q rfl (q_load1D ck_9 rfl) ?_
      refine KO.loud rfl (OpL.callD rfl (h := ref_Keys _ _ (by assumption) (by assumption))) ?_
      rintro _ _ ⟨_, ⟨rfl, rfl⟩, rfl⟩
      refine KO.q rfl (q_lt rfl rfl) ?_
      refine KO.q rfl (q_assign rfl) ?_
      refine KO.done ?_
      refine K.ret (fn := Tryz.f33) Tryz.func33 (fun a w hk hs => res1 Tryz.results33 hk rfl) (fun w hs => ?_)
      rw [hr]
      exact ⟨_, [], rfl, ⟨rfl, rfl⟩, hs.fitD⟩
def atT (nm : Nm) (es : List E) : Int := idxP (fun e => decide (e.name = nm)) es
theorem tr_at (t : Nat) (q : Option Addr) (c : Nat) (es : List E) (nm : Nm) (hl : es.length ≤ 1000000000) : Fn Tryz.prog 30 [.pointer (some ⟨t, 0, none⟩), .agg nm.cells.toArray].toArray (TrE t q c es) (fun r post => r = .int .i64 (atT nm es) ∧ post = TrE t q c es) := by
  refine Fn.enter (N := 26) Tryz.func30 rfl Tryz.ntmps30 (by kernel_rfl) rfl (fun ρ L => ?_)
  refine K.seq ?_
  refine K.region ?_
  refine KO.loud rfl (l_box rfl rfl) ?_
  rintro _ _ ⟨b3, rfl, rfl⟩
  refine KO.q rfl (q_assign rfl) ?_
  refine KO.done ?_
  refine K.seq <| K.seq ?_
  refine K.region ?_
  refine KO.q rfl (q_assign rfl) ?_
  refine KO.done ?_
  refine K.block ?_
  refine K.rloop (ι := { i : Nat // i ≤ es.length ∧ (es.take i).any (fun e => decide (e.name = nm)) = false }) (fun x => [(5, .int .i64 x.1), (0, .pointer (some ⟨t, 0, none⟩)), (3, .pointer (some ⟨b3, 0, none⟩))]) (fun x => es.length - x.1) ⟨0, Nat.zero_le _, rfl⟩ (by repeat (first | exact Env.sub_nil _ | refine Env.sub_cons rfl ?_)) (fun x ih => ?_)
  obtain ⟨i, hi, hz⟩ := x
  dsimp only at hi hz ⊢
  refine K.seq <| K.seq ?_
  refine K.region ?_
  refine KO.q rfl (q_move rfl) ?_
  refine KO.q rfl (q_move rfl) ?_
  refine KO.q rfl (q_nilCheck rfl) ?_
  refine KO.q rfl (q_field fo_29_0 rfl) ?_
  refine KO.q rfl (q_load1D ck_27 rfl) ?_
  refine KO.q rfl (q_len Tryz.underlying27 rfl) ?_
  refine KO.q rfl (q_lt rfl rfl) ?_
  refine KO.done ?_
  refine K.dcond (s := 12) rfl (fun g12 => ?_) (fun g12 => ?_)
  · obtain ⟨e, he⟩ : ∃ e, es[i]? = some e := ⟨_, List.getElem?_eq_getElem (by omega)⟩
    refine K.skip <| K.seq <| K.block <| K.seq ?_
    refine K.drawS [pv t 29 [.slice q es.length c], RowO Kd.e 79 q c es, pv b3 31 nm.cells] (fun _ h => h.subD) mixed ?_
    refine D.q 0 rfl (by kernel_rfl) (by kernel_rfl) (q_move rfl) (fun _ h => h.subD) ?_
    refine D.q 1 rfl (by kernel_rfl) (by kernel_rfl) (q_nilCheck rfl) (fun _ h => h.subD) ?_
    refine D.q 2 rfl (by kernel_rfl) (by kernel_rfl) (q_field fo_29_0 rfl) (fun _ h => h.subD) ?_
    refine D.q 3 rfl (by kernel_rfl) (by kernel_rfl) (q_load1D ck_27 rfl) (fun _ h => h.subD) ?_
    refine D.q 4 rfl (by kernel_rfl) (by kernel_rfl) (q_move rfl) (fun _ h => h.subD) ?_
    refine D.q 5 rfl (by kernel_rfl) (by kernel_rfl) (q_ix (xs := es) i se_27 rfl rfl rfl isO (by repeat (first | exact List.Mem.head _ | apply List.Mem.tail)) rfl (by omega)) (fun _ h => h.subD) ?_
    refine D.q 6 rfl (by kernel_rfl) (by kernel_rfl) (q_fieldE fo_79_0 rfl) (fun _ h => h.subD) ?_
    refine D.q 7 rfl (by kernel_rfl) (by kernel_rfl) (q_ldES (xs := es) (enc := E.cells) sub_e_name nm_sz ck_31 rfl isO (by repeat (first | exact List.Mem.head _ | apply List.Mem.tail)) he) (fun _ h => h.subD) ?_
    refine D.q 8 rfl (by kernel_rfl) (by kernel_rfl) (q_loadN ck_31 rfl rfl (by first | (apply cells_pv; (repeat (first | exact List.Mem.head _ | apply List.Mem.tail))) | (apply cells_fv; (repeat (first | exact List.Mem.head _ | apply List.Mem.tail))))) (fun _ h => h.subD) ?_
    refine D.q 9 rfl (by kernel_rfl) (by kernel_rfl) (q_recEG Tryz.underlying31 nm_hp nm_hg rfl rfl (nm_eqD _ _ Tryz.underlying31)) (fun _ h => h.subD) ?_
    refine D.done (by kernel_rfl) ?_
    refine K.dcond (s := 24) rfl (fun g24 => ?_) (fun g24 => ?_)
    · refine K.seq ?_
      have hr : atT nm es = i := idxP_some he (decide_eq_true g24) hz
      refine K.region ?_
      refine KO.q rfl (q_move rfl) ?_
      refine KO.q rfl (q_assign rfl) ?_
      refine KO.done ?_
      refine K.ret (fn := Tryz.f30) Tryz.func30 (fun a w hk hs => res1 Tryz.results30 hk rfl) (fun w hs => ?_)
      rw [hr]
      exact ⟨_, TrE t q c es, rfl, ⟨rfl, rfl⟩, hs.fitD⟩
    · refine K.skip <| K.inBlock ?_
      refine K.region ?_
      refine KO.q rfl (q_move rfl) ?_
      refine KO.q rfl (q_add rfl rfl (by first | omega | (simp; omega)) (by first | omega | (simp; omega))) ?_
      refine KO.q rfl (q_assign rfl) ?_
      refine KO.done ?_
      exact K.subE (by repeat (first | exact Env.sub_nil _ | refine Env.sub_cons rfl ?_)) (ih ⟨i + 1, by omega, by rw [any_take_succ he, hz, decide_eq_false g24]; rfl⟩ (by show es.length - (i + 1) < es.length - i; omega))
  · refine K.exit rfl ?_
    refine K.seq ?_
    have hr : atT nm es = -1 := idxP_none (by rw [List.take_of_length_le (by omega)] at hz; exact hz)
    refine K.region ?_
    refine KO.q rfl (q_assign rfl) ?_
    refine KO.done ?_
    refine K.ret (fn := Tryz.f30) Tryz.func30 (fun a w hk hs => res1 Tryz.results30 hk rfl) (fun w hs => ?_)
    rw [hr]
    exact ⟨_, TrE t q c es, rfl, ⟨rfl, rfl⟩, hs.fitD⟩
def sumN (es : List E) : Nat := (es.map fun e => e.k.holds.length).sum
theorem sumN_succ {es : List E} {i : Nat} {e : E} (h : es[i]? = some e) : sumN (es.take (i + 1)) = sumN (es.take i) + e.k.holds.length := by
  unfold sumN
  rw [List.take_add_one, h, List.map_append, List.sum_append]
  rfl
theorem sumN_le (es : List E) (i : Nat) : sumN (es.take i) ≤ sumN es := by
  have h := List.take_append_drop i es
  have : sumN es = sumN (es.take i) + sumN (es.drop i) := by
    conv => lhs; rw [← h]
    unfold sumN
    rw [List.map_append, List.sum_append]
  omega
theorem tr_Count (t : Nat) (q : Option Addr) (c : Nat) (es : List E) (hz : ∀ e ∈ es, e.k.size ≤ 1000000) (ho : ∀ e ∈ es, e.k.Ok) (hl : es.length ≤ 1000000) (hs1 : sumN es ≤ 1000000) : Fn Tryz.prog 17 [.pointer (some ⟨t, 0, none⟩)].toArray (TrE t q c es ++ [AllO RkE es]) (fun r post => r = .int .i64 (sumN es : Int) ∧ post = TrE t q c es ++ [AllO RkE es]) := by
  refine Fn.enter (N := 27) Tryz.func17 rfl Tryz.ntmps17 (by kernel_rfl) rfl (fun ρ L => ?_)
  refine K.seq ?_
  refine K.region ?_
  refine KO.q rfl (q_assign rfl) ?_
  refine KO.done ?_
  refine K.seq ?_
  refine K.region ?_
  refine KO.q rfl (q_assign rfl) ?_
  refine KO.done ?_
  refine K.seq <| K.seq ?_
  refine K.region ?_
  refine KO.q rfl (q_assign rfl) ?_
  refine KO.done ?_
  refine K.block ?_
  refine K.rounds2 (ι := { i : Nat // i ≤ es.length }) (fun s => [(4, .int .i64 s.1), (3, .int .i64 (sumN (es.take s.1) : Int)), (0, .pointer (some ⟨t, 0, none⟩))]) (fun s => TrE t q c es ++ [AllO RkE es] ++ L) (fun s => es.length - s.1) ⟨0, Nat.zero_le _⟩ (by repeat (first | exact Env.sub_nil _ | refine Env.sub_cons rfl ?_)) (fun w h => h.fitD) (fun s ih => ?_)
  obtain ⟨i, hi⟩ := s
  dsimp only at hi ⊢
  have hsi := sumN_le es i
  refine K.seq <| K.seq ?_
  refine K.region ?_
  refine KO.q rfl (q_move rfl) ?_
  refine KO.q rfl (q_move rfl) ?_
  refine KO.q rfl (q_nilCheck rfl) ?_
  refine KO.q rfl (q_field fo_29_0 rfl) ?_
  refine KO.q rfl (q_load1D ck_27 rfl) ?_
  refine KO.q rfl (q_len Tryz.underlying27 rfl) ?_
  refine KO.q rfl (q_lt rfl rfl) ?_
  refine KO.done ?_
  refine K.dcond (s := 11) rfl (fun g11 => ?_) (fun g11 => ?_)
  · obtain ⟨e, he⟩ : ∃ e, es[i]? = some e := ⟨_, List.getElem?_eq_getElem (by omega)⟩
    have hez := hz e (List.mem_of_getElem? he)
    have hok := ho e (List.mem_of_getElem? he)
    have hsu := sumN_succ he
    have hsl := sumN_le es (i + 1)
    have hhl := e.k.holds_len
    refine K.skip <| K.seq <| K.block ?_
    refine K.ex (fun w h => tr_open he (h.pick (by repeat (first | exact Pick.here | apply Pick.there)))) (fun bb => ?_)
    obtain ⟨bb, hbb⟩ := bb
    obtain ⟨nm', pp, k⟩ := e
    have hbb : pp = some bb := hbb
    subst hbb
    have hez : k.size ≤ 1000000 := hez
    have hok : k.Ok := hok
    have hhl : k.holds.length ≤ k.size := hhl
    have hsu : sumN (es.take (i + 1)) = sumN (es.take i) + k.holds.length := hsu
    refine K.region ?_
    refine KO.q rfl (q_move rfl) ?_
    refine KO.q rfl (q_move rfl) ?_
    refine KO.q rfl (q_nilCheck rfl) ?_
    refine KO.q rfl (q_field fo_29_0 rfl) ?_
    refine KO.q rfl (q_load1D ck_27 rfl) ?_
    refine KO.q rfl (q_move rfl) ?_
    refine KO.q rfl (q_ix (xs := es) i se_27 rfl rfl rfl isO (by repeat (first | exact List.Mem.head _ | apply List.Mem.tail)) rfl (by omega)) ?_
    refine KO.q rfl (q_fieldE fo_79_1 rfl) ?_
    refine KO.q rfl (q_ldE (xs := es) ck_77 rfl isO (by repeat (first | exact List.Mem.head _ | apply List.Mem.tail)) he rfl) ?_
    refine KO.loud rfl (OpL.callD rfl (h := rf_HoldsX bb k hok hez)) ?_
    rintro _ _ ⟨_, ⟨ph, dh, rfl, rfl⟩, rfl⟩
    refine KO.q rfl (q_len Tryz.underlying74 rfl) ?_
    refine KO.q rfl (q_add rfl rfl (by first | omega | (simp; omega)) (by first | omega | (simp; omega))) ?_
    refine KO.q rfl (q_assign rfl) ?_
    refine KO.done ?_
    refine K.inBlock ?_
    refine K.region ?_
    refine KO.q rfl (q_move rfl) ?_
    refine KO.q rfl (q_add rfl rfl (by first | omega | (simp; omega)) (by first | omega | (simp; omega))) ?_
    refine KO.q rfl (q_assign rfl) ?_
    refine KO.done ?_
    refine K.st (fun w h => tr_back he rfl (h.fit (M := [RkX bb k, AllO RkE (es.eraseIdx i), pv t 29 [.slice q es.length c], RowO Kd.e 79 q c es]) (by repeat (first | exact Give.nil | (apply Give.perI; (repeat (first | exact List.Mem.head _ | apply List.Mem.tail))) | (apply Give.own; (repeat (first | exact Pick.here | apply Pick.there))))) (by repeat (first | exact Drop.refl | apply Drop.skip)))) ?_
    exact K.weak (E' := [(4, .int .i64 ((i + 1 : Nat) : Int)), (3, .int .i64 (sumN (es.take (i + 1)) : Int)), (0, .pointer (some ⟨t, 0, none⟩))]) (by rw [hsu]; exact (by repeat (first | exact Env.sub_nil _ | refine Env.sub_cons rfl ?_))) (fun w h => h.fitD) (ih ⟨i + 1, by omega⟩ (by show es.length - (i + 1) < es.length - i; omega))
  · obtain rfl : i = es.length := by omega
    rw [List.take_length]
    refine K.exit rfl ?_
    refine K.seq ?_
    refine K.region ?_
    refine KO.q rfl (q_move rfl) ?_
    refine KO.q rfl (q_assign rfl) ?_
    refine KO.done ?_
    refine K.ret (fn := Tryz.f17) Tryz.func17 (fun a w hk hs => res1 Tryz.results17 hk rfl) (fun w hs => ?_)
    exact ⟨_, TrE t q c es ++ [AllO RkE es], rfl, ⟨rfl, rfl⟩, hs.fitD⟩
def lineE (who : Int) (e : E) : Bool := decide (0 ≤ at1 e.k.line who)
set_option maxHeartbeats 1600000 in
theorem tr_Waiting (t : Nat) (q : Option Addr) (c : Nat) (es : List E) (who : Int) (hz : ∀ e ∈ es, e.k.size ≤ 1000000) (hl : es.length ≤ 1000000000) : Fn Tryz.prog 13 [.pointer (some ⟨t, 0, none⟩), .int .i64 who].toArray (TrE t q c es ++ [AllO RkE es]) (fun r post => r = .tuple #[.agg (((es.find? (lineE who)).map E.name).getD Nm.nil).cells.toArray, .bool (es.find? (lineE who)).isSome] ∧ post = TrE t q c es ++ [AllO RkE es]) := by
  refine Fn.enter (N := 39) Tryz.func13 rfl Tryz.ntmps13 (by kernel_rfl) rfl (fun ρ L => ?_)
  refine K.seq ?_
  refine K.region ?_
  refine KO.loud rfl (l_alloc zo_31) ?_
  rintro _ _ ⟨b4, rfl, rfl⟩
  refine KO.q rfl (q_assign rfl) ?_
  refine KO.done ?_
  refine K.seq <| K.seq ?_
  refine K.region ?_
  refine KO.q rfl (q_assign rfl) ?_
  refine KO.done ?_
  refine K.block ?_
  refine K.rounds2 (ι := { i : Nat // i ≤ es.length ∧ (es.take i).any (lineE who) = false }) (fun s => [(6, .int .i64 s.1), (0, .pointer (some ⟨t, 0, none⟩)), (1, .int .i64 who), (4, .pointer (some ⟨b4, 0, none⟩))]) (fun s => TrE t q c es ++ [AllO RkE es, pv b4 31 Nm.nil.cells] ++ L) (fun s => es.length - s.1) ⟨0, Nat.zero_le _, rfl⟩ (by repeat (first | exact Env.sub_nil _ | refine Env.sub_cons rfl ?_)) (fun w h => h.fitD) (fun s ih => ?_)
  obtain ⟨i, hi, hno⟩ := s
  dsimp only at hi hno ⊢
  refine K.seq <| K.seq ?_
  refine K.region ?_
  refine KO.q rfl (q_move rfl) ?_
  refine KO.q rfl (q_move rfl) ?_
  refine KO.q rfl (q_nilCheck rfl) ?_
  refine KO.q rfl (q_field fo_29_0 rfl) ?_
  refine KO.q rfl (q_load1D ck_27 rfl) ?_
  refine KO.q rfl (q_len Tryz.underlying27 rfl) ?_
  refine KO.q rfl (q_lt rfl rfl) ?_
  refine KO.done ?_
  refine K.dcond (s := 13) rfl (fun g13 => ?_) (fun g13 => ?_)
  · obtain ⟨e, he⟩ : ∃ e, es[i]? = some e := ⟨_, List.getElem?_eq_getElem (by omega)⟩
    have hez := hz e (List.mem_of_getElem? he)
    refine K.skip <| K.seq <| K.block <| K.seq ?_
    refine K.ex (fun w h => tr_openL he (h.pick (by repeat (first | exact Pick.here | apply Pick.there)))) (fun a => ?_)
    obtain ⟨⟨bb, hbb⟩, ⟨⟨q1, c1⟩, ⟨q2, c2⟩⟩⟩ := a
    obtain ⟨nm', pp, k⟩ := e
    have hbb : pp = some bb := hbb
    subst hbb
    have hez : k.size ≤ 1000000 := hez
    have hkl : k.line.length ≤ 1000000000 := by unfold Lk.size at hez; omega
    refine K.region ?_
    refine KO.q rfl (q_move rfl) ?_
    refine KO.q rfl (q_nilCheck rfl) ?_
    refine KO.q rfl (q_field fo_29_0 rfl) ?_
    refine KO.q rfl (q_load1D ck_27 rfl) ?_
    refine KO.q rfl (q_move rfl) ?_
    refine KO.q rfl (q_ix (xs := es) i se_27 rfl rfl rfl isO (by repeat (first | exact List.Mem.head _ | apply List.Mem.tail)) rfl (by omega)) ?_
    refine KO.q rfl (q_fieldE fo_79_1 rfl) ?_
    refine KO.q rfl (q_ldE (xs := es) ck_77 rfl isO (by repeat (first | exact List.Mem.head _ | apply List.Mem.tail)) he rfl) ?_
    refine KO.q rfl (q_nilCheck rfl) ?_
    refine KO.q rfl (q_field fo_76_1 rfl) ?_
    refine KO.q rfl (q_load1D ck_74 rfl) ?_
    refine KO.q rfl (q_move rfl) ?_
    refine KO.loud rfl (OpL.callD rfl (h := rf_findW 59 q2 c2 k.line who hkl)) ?_
    rintro _ _ ⟨_, ⟨rfl, rfl⟩, rfl⟩
    refine KO.q rfl (q_ge rfl rfl) ?_
    refine KO.done ?_
    refine K.dcond (s := 29) rfl (fun g29 => ?_) (fun g29 => ?_)
    · have hf : lineE who ⟨nm', some bb, k⟩ = true := decide_eq_true g29
      have hw : es.find? (lineE who) = some ⟨nm', some bb, k⟩ := find_take he hno hf
      refine K.st (fun w h => tr_backL he rfl (h.fit (M := RkL bb q1 c1 q2 c2 k ++ [AllO RkE (es.eraseIdx i), pv t 29 [.slice q es.length c], RowO Kd.e 79 q c es, pv b4 31 Nm.nil.cells]) (by repeat (first | exact Give.nil | (apply Give.perI; (repeat (first | exact List.Mem.head _ | apply List.Mem.tail))) | (apply Give.own; (repeat (first | exact Pick.here | apply Pick.there))))) (by repeat (first | exact Drop.refl | apply Drop.skip)))) ?_
      refine K.seq ?_
      refine K.region ?_
      refine KO.q rfl (q_move rfl) ?_
      refine KO.q rfl (q_nilCheck rfl) ?_
      refine KO.q rfl (q_field fo_29_0 rfl) ?_
      refine KO.q rfl (q_load1D ck_27 rfl) ?_
      refine KO.q rfl (q_move rfl) ?_
      refine KO.q rfl (q_ix (xs := es) i se_27 rfl rfl rfl isO (by repeat (first | exact List.Mem.head _ | apply List.Mem.tail)) rfl (by omega)) ?_
      refine KO.q rfl (q_fieldE fo_79_0 rfl) ?_
      refine KO.q rfl (q_ldES (xs := es) (enc := E.cells) sub_e_name nm_sz ck_31 rfl isO (by repeat (first | exact List.Mem.head _ | apply List.Mem.tail)) he) ?_
      refine KO.loudN rfl (l_storeAll ck_31 rfl rfl ⟨rfl, rfl⟩ (nm_one _) (by repeat (first | exact Pick.here | apply Pick.there))) ?_
      rintro _ _ ⟨rfl, rfl⟩
      refine KO.q rfl (q_assign rfl) ?_
      refine KO.done ?_
      refine K.ret (fn := Tryz.f13) Tryz.func13 (fun a w hk hs => resCT Tryz.results13 hk rfl ck_31 rfl (cells_pv (by repeat (first | exact List.Mem.head _ | apply List.Mem.tail)) w hs) rfl) (fun w hs => ?_)
      rw [hw]
      exact ⟨_, TrE t q c es ++ [AllO RkE es], rfl, ⟨rfl, rfl⟩, hs.fitD⟩
    · have hf : lineE who ⟨nm', some bb, k⟩ = false := decide_eq_false g29
      refine K.st (fun w h => tr_backL he rfl (h.fit (M := RkL bb q1 c1 q2 c2 k ++ [AllO RkE (es.eraseIdx i), pv t 29 [.slice q es.length c], RowO Kd.e 79 q c es, pv b4 31 Nm.nil.cells]) (by repeat (first | exact Give.nil | (apply Give.perI; (repeat (first | exact List.Mem.head _ | apply List.Mem.tail))) | (apply Give.own; (repeat (first | exact Pick.here | apply Pick.there))))) (by repeat (first | exact Drop.refl | apply Drop.skip)))) ?_
      refine K.skip <| K.inBlock ?_
      refine K.region ?_
      refine KO.q rfl (q_move rfl) ?_
      refine KO.q rfl (q_add rfl rfl (by first | omega | (simp; omega)) (by first | omega | (simp; omega))) ?_
      refine KO.q rfl (q_assign rfl) ?_
      refine KO.done ?_
      exact K.weak (by repeat (first | exact Env.sub_nil _ | refine Env.sub_cons rfl ?_)) (fun w h => h.fitD) (ih ⟨i + 1, by omega, by rw [any_take_succ he, hno, hf]; rfl⟩ (by show es.length - (i + 1) < es.length - i; omega))
  · have hw : es.find? (lineE who) = none := find_none (by rw [List.take_of_length_le (by omega)] at hno; exact hno)
    refine K.exit rfl ?_
    refine K.seq ?_
    refine K.region ?_
    refine KO.q rfl (q_as_nm (q_build st_31 rfl (by repeat (first | exact Fill.nil | (apply Fill.cons; rfl; rfl; rfl) | exact SetN.nil | apply SetN.cons | exact SetAt.here | apply SetAt.there))) (by rfl)) ?_
    refine KO.loudN rfl (l_storeAll ck_31 rfl rfl ⟨rfl, rfl⟩ (nm_one _) (by repeat (first | exact Pick.here | apply Pick.there))) ?_
    rintro _ _ ⟨rfl, rfl⟩
    refine KO.q rfl (q_assign rfl) ?_
    refine KO.done ?_
    refine K.ret (fn := Tryz.f13) Tryz.func13 (fun a w hk hs => resCT Tryz.results13 hk rfl ck_31 rfl (cells_pv (by repeat (first | exact List.Mem.head _ | apply List.Mem.tail)) w hs) rfl) (fun w hs => ?_)
    rw [hw]
    exact ⟨_, TrE t q c es ++ [AllO RkE es], rfl, ⟨rfl, rfl⟩, hs.fitD⟩
/-- What the document's table says somebody holds. -/
def mdN (es : List E) (who : Int) (nm : Nm) : Int := if atT nm es < 0 then 0 else if at1 ((es.getD (atT nm es).toNat ⟨Nm.nil, none, ⟨[], []⟩⟩).k.hold) who < 0 then 0 else (((es.getD (atT nm es).toNat ⟨Nm.nil, none, ⟨[], []⟩⟩).k.hold).getD (at1 ((es.getD (atT nm es).toNat ⟨Nm.nil, none, ⟨[], []⟩⟩).k.hold) who).toNat ⟨0, 0⟩).mode
theorem atT_some {es : List E} {nm : Nm} (h : ¬ atT nm es < 0) : ∃ (i : Nat) (e : E), es[i]? = some e ∧ atT nm es = (i : Int) ∧ e.name = nm := by
  unfold atT idxP at h ⊢
  cases hf : es.findIdx? (fun x => decide (x.name = nm)) with
  | none => rw [hf] at h; exact absurd (by decide) h
  | some i =>
    rw [List.findIdx?_eq_some_iff_getElem] at hf
    obtain ⟨hi, h1, _⟩ := hf
    exact ⟨i, es[i], List.getElem?_eq_getElem hi, rfl, of_decide_eq_true h1⟩
set_option maxHeartbeats 1600000 in
theorem tr_Mode (t : Nat) (q : Option Addr) (c : Nat) (es : List E) (who : Int) (nm : Nm) (hz : ∀ e ∈ es, e.k.size ≤ 1000000) (hl : es.length ≤ 1000000000) : Fn Tryz.prog 15 [.pointer (some ⟨t, 0, none⟩), .int .i64 who, .agg nm.cells.toArray].toArray (TrE t q c es ++ [AllO RkE es]) (fun r post => r = .int .i64 (mdN es who nm.plain.1) ∧ post = TrE t q c es ++ [AllO RkE es]) := by
  refine Fn.enter (N := 45) Tryz.func15 rfl Tryz.ntmps15 (by kernel_rfl) rfl (fun ρ L => ?_)
  refine K.seq ?_
  refine K.region ?_
  refine KO.loud rfl (l_box rfl rfl) ?_
  rintro _ _ ⟨b5, rfl, rfl⟩
  refine KO.q rfl (q_assign rfl) ?_
  refine KO.done ?_
  refine K.seq ?_
  refine K.region ?_
  refine KO.q rfl (q_move rfl) ?_
  refine KO.q rfl (q_loadN ck_31 rfl rfl (by first | (apply cells_pv; (repeat (first | exact List.Mem.head _ | apply List.Mem.tail))) | (apply cells_fv; (repeat (first | exact List.Mem.head _ | apply List.Mem.tail))))) ?_
  refine KO.loud rfl (OpL.callD rfl (h := rf_plain _)) ?_
  rintro _ _ ⟨_, ⟨rfl, rfl⟩, rfl⟩
  refine KO.loud rfl (OpL.callD rfl (h := tr_at t q c es nm.plain.1 hl)) ?_
  rintro _ _ ⟨_, ⟨rfl, rfl⟩, rfl⟩
  refine KO.q rfl (q_assign rfl) ?_
  refine KO.done ?_
  refine K.seq <| K.seq ?_
  refine K.region ?_
  refine KO.q rfl (q_move rfl) ?_
  refine KO.q rfl (q_lt rfl rfl) ?_
  refine KO.done ?_
  refine K.dcond (s := 14) rfl (fun g14 => ?_) (fun g14 => ?_)
  · have hr : mdN es who nm.plain.1 = 0 := by unfold mdN; rw [if_pos g14]
    refine K.seq ?_
    refine K.region ?_
    refine KO.q rfl (q_assign rfl) ?_
    refine KO.done ?_
    refine K.ret (fn := Tryz.f15) Tryz.func15 (fun a w hk hs => res1 Tryz.results15 hk rfl) (fun w hs => ?_)
    rw [hr]
    exact ⟨_, TrE t q c es ++ [AllO RkE es], rfl, ⟨rfl, rfl⟩, hs.fitD⟩
  · obtain ⟨i, e, he, hi, hen⟩ := atT_some g14
    have hez := hz e (List.mem_of_getElem? he)
    have hd : es.getD (atT nm.plain.1 es).toNat ⟨Nm.nil, none, ⟨[], []⟩⟩ = e := by rw [hi, Int.toNat_natCast, List.getD_eq_getElem?_getD, he]; rfl
    have hil := (List.getElem?_eq_some_iff.1 he).1
    refine K.ex (fun w h => tr_openL he (h.pick (by repeat (first | exact Pick.here | apply Pick.there)))) (fun a => ?_)
    obtain ⟨⟨bb, hbb⟩, ⟨⟨q1, c1⟩, ⟨q2, c2⟩⟩⟩ := a
    obtain ⟨nm', pp, k⟩ := e
    have hbb : pp = some bb := hbb
    subst hbb
    have hez : k.size ≤ 1000000 := hez
    have hkl : k.hold.length ≤ 1000000000 := by unfold Lk.size at hez; omega
    refine K.skip <| K.seq ?_
    refine K.region ?_
    refine KO.q rfl (q_move rfl) ?_
    refine KO.q rfl (q_nilCheck rfl) ?_
    refine KO.q rfl (q_field fo_29_0 rfl) ?_
    refine KO.q rfl (q_load1D ck_27 rfl) ?_
    refine KO.q rfl (q_move rfl) ?_
    refine KO.q rfl (q_ix (xs := es) i se_27 rfl rfl hi isO (by repeat (first | exact List.Mem.head _ | apply List.Mem.tail)) rfl hil) ?_
    refine KO.q rfl (q_fieldE fo_79_1 rfl) ?_
    refine KO.q rfl (q_ldE (xs := es) ck_77 rfl isO (by repeat (first | exact List.Mem.head _ | apply List.Mem.tail)) he rfl) ?_
    refine KO.q rfl (q_nilCheck rfl) ?_
    refine KO.q rfl (q_field fo_76_0 rfl) ?_
    refine KO.q rfl (q_load1D ck_74 rfl) ?_
    refine KO.q rfl (q_move rfl) ?_
    refine KO.loud rfl (OpL.callD rfl (h := rf_findH 59 q1 c1 k.hold who hkl)) ?_
    rintro _ _ ⟨_, ⟨rfl, rfl⟩, rfl⟩
    refine KO.q rfl (q_assign rfl) ?_
    refine KO.done ?_
    refine K.seq <| K.seq ?_
    refine K.region ?_
    refine KO.q rfl (q_move rfl) ?_
    refine KO.q rfl (q_lt rfl rfl) ?_
    refine KO.done ?_
    refine K.dcond (s := 29) rfl (fun g29 => ?_) (fun g29 => ?_)
    · have hr : mdN es who nm.plain.1 = 0 := by unfold mdN; rw [if_neg g14, hd, if_pos g29]
      refine K.seq ?_
      refine K.region ?_
      refine KO.q rfl (q_assign rfl) ?_
      refine KO.done ?_
      refine K.ret (fn := Tryz.f15) Tryz.func15 (fun a w hk hs => res1 Tryz.results15 hk rfl) (fun w hs => ?_)
      rw [hr]
      exact ⟨_, TrE t q c es ++ [AllO RkE es], rfl, ⟨rfl, rfl⟩, (tr_backL he rfl (hs.fit (M := RkL bb q1 c1 q2 c2 k ++ [AllO RkE (es.eraseIdx i), pv t 29 [.slice q es.length c], RowO Kd.e 79 q c es]) (by repeat (first | exact Give.nil | (apply Give.perI; (repeat (first | exact List.Mem.head _ | apply List.Mem.tail))) | (apply Give.own; (repeat (first | exact Pick.here | apply Pick.there))))) (by repeat (first | exact Drop.refl | apply Drop.skip)))).fitD⟩
    · obtain ⟨j, el, hj, hji, hw⟩ := at1_some (l := k.hold) (who := who) (by omega)
      have hjl := (List.getElem?_eq_some_iff.1 hj).1
      have hr : mdN es who nm.plain.1 = el.mode := by unfold mdN; rw [if_neg g14, hd, if_neg g29, hji, Int.toNat_natCast, getD_at hj]
      refine K.skip <| K.seq ?_
      refine K.region ?_
      refine KO.q rfl (q_move rfl) ?_
      refine KO.q rfl (q_nilCheck rfl) ?_
      refine KO.q rfl (q_field fo_29_0 rfl) ?_
      refine KO.q rfl (q_load1D ck_27 rfl) ?_
      refine KO.q rfl (q_move rfl) ?_
      refine KO.q rfl (q_ix (xs := es) i se_27 rfl rfl hi isO (by repeat (first | exact List.Mem.head _ | apply List.Mem.tail)) rfl hil) ?_
      refine KO.q rfl (q_fieldE fo_79_1 rfl) ?_
      refine KO.q rfl (q_ldE (xs := es) ck_77 rfl isO (by repeat (first | exact List.Mem.head _ | apply List.Mem.tail)) he rfl) ?_
      refine KO.q rfl (q_nilCheck rfl) ?_
      refine KO.q rfl (q_field fo_76_0 rfl) ?_
      refine KO.q rfl (q_load1D ck_74 rfl) ?_
      refine KO.q rfl (q_move rfl) ?_
      refine KO.q rfl (q_ix (xs := k.hold) j se_74 rfl rfl hji isO (by repeat (first | exact List.Mem.head _ | apply List.Mem.tail)) rfl hjl) ?_
      refine KO.q rfl (q_fieldE fo_59_1 rfl) ?_
      refine KO.q rfl (q_ldE (xs := k.hold) (enc := One.heldC) ck_3 rfl isO (by repeat (first | exact List.Mem.head _ | apply List.Mem.tail)) hj rfl) ?_
      refine KO.q rfl (q_assign rfl) ?_
      refine KO.done ?_
      refine K.ret (fn := Tryz.f15) Tryz.func15 (fun a w hk hs => res1 Tryz.results15 hk rfl) (fun w hs => ?_)
      rw [hr]
      exact ⟨_, TrE t q c es ++ [AllO RkE es], rfl, ⟨rfl, rfl⟩, (tr_backL he rfl (hs.fit (M := RkL bb q1 c1 q2 c2 k ++ [AllO RkE (es.eraseIdx i), pv t 29 [.slice q es.length c], RowO Kd.e 79 q c es]) (by repeat (first | exact Give.nil | (apply Give.perI; (repeat (first | exact List.Mem.head _ | apply List.Mem.tail))) | (apply Give.own; (repeat (first | exact Pick.here | apply Pick.there))))) (by repeat (first | exact Drop.refl | apply Drop.skip)))).fitD⟩
end Go.Proofs.YtcpkcjabmookmaaGreat.L
