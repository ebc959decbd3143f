/- The law ModelLost, walked. -/
import Derived.Test.YthnmoiilaaoooaaGreatN5
import Derived.Test.YthnmoiilaaoooaaGreatN2
import Derived.Test.YthnmoiilaaoooaaGreatLQ
namespace Go.Proofs.YthnmoiilaaoooaaGreat.L
open Go Go.Proofs
attribute [local irreducible] pv fv pt fz RowF RowO rowP old pure_ elA
set_option maxRecDepth 100000
set_option linter.unusedSimpArgs false
set_option linter.unusedVariables false

def mL (k : Nat) : Msg := ⟨(k : Int) + 1, 0, 0, false, ⟨#[]⟩, ⟨#[]⟩⟩
def lA (i : Nat) : List Msg := (List.range i).map mL
def lB (K : Nat) (gone : Bool) (i : Nat) : List Msg := ((List.range i).filter (fun k => decide (k ≠ K) || !gone)).map mL
theorem lA_succ (i : Nat) : lA (i + 1) = lA i ++ [mL i] := by unfold lA; rw [List.range_succ, List.map_append]; rfl
theorem lB_yes {K : Nat} {gone : Bool} {i : Nat} (h : i ≠ K ∨ gone = false) : lB K gone (i + 1) = lB K gone i ++ [mL i] := by
  unfold lB
  rw [List.range_succ, List.filter_append, List.map_append]
  congr 1
  have : (decide (i ≠ K) || !gone) = true := by rcases h with h | h <;> simp [h]
  rw [List.filter_cons, if_pos this]
  rfl
theorem lB_no {K : Nat} {gone : Bool} {i : Nat} (h : i = K) (hg : gone = true) : lB K gone (i + 1) = lB K gone i := by
  unfold lB
  rw [List.range_succ, List.filter_append, List.filter_cons, if_neg (by simp [h, hg])]
  simp
theorem lA_len (i : Nat) : (lA i).length = i := by unfold lA; simp
theorem lB_len (K : Nat) (gone : Bool) (i : Nat) : (lB K gone i).length ≤ i := by
  unfold lB
  rw [List.length_map]
  exact Nat.le_trans (List.length_filter_le _ _) (by simp)
def obq (l : List Msg) : Ob := ⟨⟨#[113]⟩, 2, 1, [], l, []⟩
def ozq (l : List Msg) (q : Option Addr) (c : Nat) : Oz := ⟨obq l, ⟨none, 0, q, c, none, 0⟩⟩
theorem mem_lA {N : Nat} {n : Int} : n ∈ Stt.ids ⟨100, [obq (lA N)]⟩ ↔ ∃ k, k < N ∧ n = (k : Int) + 1 := by
  unfold Stt.ids Ob.ids obq lA mL
  simp only [List.flatMap_cons, List.flatMap_nil, List.append_nil, List.mem_map, List.mem_range]
  constructor
  · rintro ⟨m, ⟨k, hk, rfl⟩, rfl⟩; exact ⟨k, hk, rfl⟩
  · rintro ⟨k, hk, rfl⟩; exact ⟨_, ⟨k, hk, rfl⟩, rfl⟩
theorem mem_lB {N K : Nat} {gone : Bool} {n : Int} : n ∈ Stt.ids ⟨100, [obq (lB K gone N)]⟩ ↔ ∃ k, k < N ∧ (k ≠ K ∨ gone = false) ∧ n = (k : Int) + 1 := by
  unfold Stt.ids Ob.ids obq lB mL
  simp only [List.flatMap_cons, List.flatMap_nil, List.append_nil, List.mem_map, List.mem_filter, List.mem_range, Bool.or_eq_true, decide_eq_true_eq, Bool.not_eq_true']
  constructor
  · rintro ⟨m, ⟨k, ⟨hk, hg⟩, rfl⟩, rfl⟩; exact ⟨k, hk, hg, rfl⟩
  · rintro ⟨k, hk, hg, rfl⟩; exact ⟨_, ⟨k, ⟨hk, hg⟩, rfl⟩, rfl⟩
theorem cnt_one (K : Nat) (n : Int) : ([(K : Int) + 1] : List Int).count n = if n = (K : Int) + 1 then 1 else 0 := by
  rw [List.count_singleton]
  by_cases h : n = (K : Int) + 1
  · simp [h]
  · rw [if_neg h]
    have : ((K : Int) + 1 == n) = false := by simpa using fun e => h e.symm
    rw [this]; rfl
theorem lost_a {N K : Nat} (hK : K < N) (taken gone : Bool) : decide (keptP (Stt.ids ⟨100, [obq (lA N)]⟩) (Stt.ids ⟨100, [obq (lB K gone N)]⟩) (if taken = true then [(K : Int) + 1] else [])) = (taken == gone) := by
  have hKA : ((K : Int) + 1) ∈ Stt.ids ⟨100, [obq (lA N)]⟩ := mem_lA.2 ⟨K, hK, rfl⟩
  have hBA : ∀ n ∈ Stt.ids ⟨100, [obq (lB K gone N)]⟩, n ∈ Stt.ids ⟨100, [obq (lA N)]⟩ := fun n hn => by
    obtain ⟨k, hk, _, rfl⟩ := mem_lB.1 hn
    exact mem_lA.2 ⟨k, hk, rfl⟩
  cases taken with
  | false =>
    rw [if_neg (by decide)]
    cases gone with
    | false =>
      refine decide_eq_true ⟨fun n hn => ⟨⟨fun _ => by simp, fun _ => ?_⟩, by simp⟩, hBA⟩
      obtain ⟨k, hk, rfl⟩ := mem_lA.1 hn
      exact mem_lB.2 ⟨k, hk, .inr rfl, rfl⟩
    | true =>
      refine decide_eq_false fun h => ?_
      have h1 := ((h.1 _ hKA).1).2 (by simp)
      obtain ⟨k, hk, hg, e⟩ := mem_lB.1 h1
      rcases hg with hg | hg
      · exact hg (by omega)
      · cases hg
  | true =>
    rw [if_pos rfl]
    cases gone with
    | false =>
      refine decide_eq_false fun h => ?_
      have h1 : ((K : Int) + 1) ∈ Stt.ids ⟨100, [obq (lB K false N)]⟩ := mem_lB.2 ⟨K, hK, .inr rfl, rfl⟩
      exact ((h.1 _ hKA).1).1 h1 (by rw [cnt_one, if_pos rfl])
    | true =>
      refine decide_eq_true ⟨fun n hn => ⟨⟨fun hb => ?_, fun hc => ?_⟩, by rw [cnt_one]; split <;> omega⟩, hBA⟩
      · obtain ⟨k, hk, hg, rfl⟩ := mem_lB.1 hb
        rcases hg with hg | hg
        · rw [cnt_one, if_neg (by omega)]; decide
        · cases hg
      · obtain ⟨k, hk, rfl⟩ := mem_lA.1 hn
        refine mem_lB.2 ⟨k, hk, .inl fun e => ?_, rfl⟩
        rw [cnt_one, if_pos (by rw [e])] at hc
        exact hc rfl
theorem lost_b {N : Nat} : decide (keptP (Stt.ids ⟨100, [obq (lA N)]⟩) (Stt.ids ⟨100, [obq (lA N)]⟩) []) = true :=
  decide_eq_true ⟨fun n hn => ⟨⟨fun _ => by simp, fun _ => hn⟩, by simp⟩, fun n hn => hn⟩
theorem lost_c {N K : Nat} (hK : K < N) (gone : Bool) : decide (keptP (Stt.ids ⟨100, [obq (lB K gone N)]⟩) (Stt.ids ⟨100, [obq (lA N)]⟩) []) = !gone := by
  cases gone with
  | false =>
    refine decide_eq_true ⟨fun n hn => ⟨⟨fun _ => by simp, fun _ => ?_⟩, by simp⟩, fun n hn => ?_⟩
    · obtain ⟨k, hk, _, rfl⟩ := mem_lB.1 hn
      exact mem_lA.2 ⟨k, hk, rfl⟩
    · obtain ⟨k, hk, rfl⟩ := mem_lA.1 hn
      exact mem_lB.2 ⟨k, hk, .inr rfl, rfl⟩
  | true =>
    refine decide_eq_false fun h => ?_
    obtain ⟨k, hk, hg, e⟩ := mem_lB.1 (h.2 _ (mem_lA.2 ⟨K, hK, rfl⟩))
    rcases hg with hg | hg
    · exact hg (by omega)
    · cases hg
def dDeq (K : Nat) : Deed := ⟨⟨12, ⟨#[113]⟩, ⟨#[]⟩, ⟨#[]⟩, 0, 0⟩, 0, 0, ⟨⟨#[]⟩, ⟨#[]⟩⟩, ⟨(K : Int) + 1, 0, 0, false, ⟨#[]⟩, ⟨#[]⟩⟩⟩
theorem ozq_le {l : List Msg} {q : Option Addr} {c : Nat} (h : l.length ≤ 20) : ∀ o ∈ [ozq l q c], o.le 1000000 := fun o ho => by
  rw [List.mem_singleton.1 ho]
  exact ⟨Nat.zero_le _, Nat.le_trans h (by decide), Nat.zero_le _⟩
theorem forall1 {α : Type} {P : α → Prop} {a : α} (ha : P a) : ∀ x ∈ [a], P x := fun x hx => by rw [List.mem_singleton.1 hx]; exact ha
set_option maxHeartbeats 6400000 in
theorem law_ModelLost (n at' : Int) (taken gone : Bool) : Fn Tryz.prog 4 [.int .i64 n, .int .i64 at', .bool taken, .bool gone].toArray [] (fun r post => r = .bool true ∧ post = []) := by
  refine Fn.enter (N := 113) Tryz.func4 rfl Tryz.ntmps4 (by kernel_rfl) rfl (fun ρ L => ?_)
  refine K.seq ?_
  refine K.region ?_
  refine KO.q rfl (q_assign rfl) ?_
  refine KO.done ?_
  refine K.seq ?_
  refine K.region ?_
  refine KO.loud rfl (OpL.callD rfl (h := l26_alive)) ?_
  rintro _ _ ⟨_, ⟨rfl, rfl⟩, rfl⟩
  refine KO.q rfl (q_assign rfl) ?_
  refine KO.done ?_
  refine K.seq <| K.seq ?_
  refine K.region ?_
  refine KO.q rfl (q_move rfl) ?_
  refine KO.q rfl (q_not rfl) ?_
  refine KO.q rfl (q_move rfl) ?_
  refine KO.q rfl (q_move rfl) ?_
  refine KO.q rfl (q_lt rfl rfl) ?_
  refine KO.q rfl (q_pickF rfl rfl) ?_
  refine KO.q rfl (q_move rfl) ?_
  refine KO.dsplit 22 rfl (fun g22 => ?_) (fun g22 => ?_)
  · refine KO.skip rfl ?_
    refine KO.skip rfl ?_
    refine KO.q rfl (q_pickT rfl rfl) ?_
    refine KO.q rfl (q_move rfl) ?_
    refine KO.skip rfl ?_
    refine KO.skip rfl ?_
    refine KO.q rfl (q_pickT rfl rfl) ?_
    refine KO.q rfl (q_move rfl) ?_
    refine KO.skip rfl ?_
    refine KO.skip rfl ?_
    refine KO.skip rfl ?_
    refine KO.q rfl (q_pickT rfl rfl) ?_
    refine KO.done ?_
    refine K.yes rfl ?_
    refine K.seq ?_
    refine K.region ?_
    refine KO.q rfl (q_move rfl) ?_
    refine KO.q rfl (q_assign rfl) ?_
    refine KO.done ?_
    refine K.ret (fn := Tryz.f4) Tryz.func4 (fun a w hk hs => res1 Tryz.results4 hk rfl) (fun w hs => ?_)
    exact ⟨_, [], rfl, ⟨rfl, rfl⟩, hs.fitD⟩
  · refine KO.q rfl (q_move rfl) ?_
    refine KO.q rfl (q_gt rfl rfl) ?_
    refine KO.q rfl (q_pickF rfl rfl) ?_
    refine KO.q rfl (q_move rfl) ?_
    refine KO.dsplit 26 rfl (fun g26 => ?_) (fun g26 => ?_)
    · refine KO.skip rfl ?_
      refine KO.skip rfl ?_
      refine KO.q rfl (q_pickT rfl rfl) ?_
      refine KO.q rfl (q_move rfl) ?_
      refine KO.skip rfl ?_
      refine KO.skip rfl ?_
      refine KO.skip rfl ?_
      refine KO.q rfl (q_pickT rfl rfl) ?_
      refine KO.done ?_
      refine K.yes rfl ?_
      refine K.seq ?_
      refine K.region ?_
      refine KO.q rfl (q_move rfl) ?_
      refine KO.q rfl (q_assign rfl) ?_
      refine KO.done ?_
      refine K.ret (fn := Tryz.f4) Tryz.func4 (fun a w hk hs => res1 Tryz.results4 hk rfl) (fun w hs => ?_)
      exact ⟨_, [], rfl, ⟨rfl, rfl⟩, hs.fitD⟩
    · refine KO.q rfl (q_move rfl) ?_
      refine KO.q rfl (q_lt rfl rfl) ?_
      refine KO.q rfl (q_pickF rfl rfl) ?_
      refine KO.q rfl (q_move rfl) ?_
      refine KO.dsplit 30 rfl (fun g30 => ?_) (fun g30 => ?_)
      · refine KO.skip rfl ?_
        refine KO.skip rfl ?_
        refine KO.skip rfl ?_
        refine KO.q rfl (q_pickT rfl rfl) ?_
        refine KO.done ?_
        refine K.yes rfl ?_
        refine K.seq ?_
        refine K.region ?_
        refine KO.q rfl (q_move rfl) ?_
        refine KO.q rfl (q_assign rfl) ?_
        refine KO.done ?_
        refine K.ret (fn := Tryz.f4) Tryz.func4 (fun a w hk hs => res1 Tryz.results4 hk rfl) (fun w hs => ?_)
        exact ⟨_, [], rfl, ⟨rfl, rfl⟩, hs.fitD⟩
      · refine KO.q rfl (q_move rfl) ?_
        refine KO.q rfl (q_move rfl) ?_
        refine KO.q rfl (q_ge rfl rfl) ?_
        refine KO.q rfl (q_pickF rfl rfl) ?_
        refine KO.done ?_
        refine K.dcond (s := 34) rfl (fun g34 => ?_) (fun g34 => ?_)
        · refine K.seq ?_
          refine K.region ?_
          refine KO.q rfl (q_move rfl) ?_
          refine KO.q rfl (q_assign rfl) ?_
          refine KO.done ?_
          refine K.ret (fn := Tryz.f4) Tryz.func4 (fun a w hk hs => res1 Tryz.results4 hk rfl) (fun w hs => ?_)
          exact ⟨_, [], rfl, ⟨rfl, rfl⟩, hs.fitD⟩
        · obtain ⟨N, rfl⟩ : ∃ N : Nat, n = (N : Int) := ⟨n.toNat, by omega⟩
          obtain ⟨ka, rfl⟩ : ∃ ka : Nat, at' = (ka : Int) := ⟨at'.toNat, by omega⟩
          rename_i L2
          refine K.skip <| K.seq ?_
          refine K.region ?_
          refine KO.q rfl (q_as_oz (rows_ := []) (msgs_ := []) (dead_ := []) (q_build st_33 rfl (by repeat (first | exact Fill.nil | (apply Fill.cons; rfl; rfl; rfl) | exact SetN.nil | apply SetN.cons | exact SetAt.here | apply SetAt.there))) rfl) ?_
          refine KO.loud rfl (l_slice1 sz_22_1 rfl rfl ⟨rfl, rfl, rfl⟩) ?_
          rintro _ _ ⟨b37, rfl, rfl⟩
          refine KO.st (fun w h => pv_ownR (n := 6) (enc := Oz.cells) (hl := oz_sz) (h1 := oz_one) (ozq [] none 0) rfl h) ?_
          refine KO.st (fun w h => rowO_nil (k := Kd.msg) 39 h) ?_
          refine KO.q rfl (q_as_sz (l_ := [ozq [] none 0]) (q_build st_24 rfl (by repeat (first | exact Fill.nil | (apply Fill.cons; rfl; rfl; rfl) | exact SetN.nil | apply SetN.cons | exact SetAt.here | apply SetAt.there))) rfl) ?_
          refine KO.loud rfl (l_alloc zo_24) ?_
          rintro _ _ ⟨b10, rfl, rfl⟩
          refine KO.loudN rfl (l_storeAll ck_24 rfl rfl ⟨rfl, rfl⟩ (sz_one _) (by repeat (first | exact Pick.here | apply Pick.there))) ?_
          rintro _ _ ⟨rfl, rfl⟩
          refine KO.done ?_
          refine K.seq ?_
          refine K.region ?_
          refine KO.q rfl (q_as_oz (rows_ := []) (msgs_ := []) (dead_ := []) (q_build st_33 rfl (by repeat (first | exact Fill.nil | (apply Fill.cons; rfl; rfl; rfl) | exact SetN.nil | apply SetN.cons | exact SetAt.here | apply SetAt.there))) rfl) ?_
          refine KO.loud rfl (l_slice1 sz_22_1 rfl rfl ⟨rfl, rfl, rfl⟩) ?_
          rintro _ _ ⟨b40, rfl, rfl⟩
          refine KO.st (fun w h => pv_ownR (n := 6) (enc := Oz.cells) (hl := oz_sz) (h1 := oz_one) (ozq [] none 0) rfl h) ?_
          refine KO.st (fun w h => rowO_nil (k := Kd.msg) 39 h) ?_
          refine KO.q rfl (q_as_sz (l_ := [ozq [] none 0]) (q_build st_24 rfl (by repeat (first | exact Fill.nil | (apply Fill.cons; rfl; rfl; rfl) | exact SetN.nil | apply SetN.cons | exact SetAt.here | apply SetAt.there))) rfl) ?_
          refine KO.loud rfl (l_alloc zo_24) ?_
          rintro _ _ ⟨b11, rfl, rfl⟩
          refine KO.loudN rfl (l_storeAll ck_24 rfl rfl ⟨rfl, rfl⟩ (sz_one _) (by repeat (first | exact Pick.here | apply Pick.there))) ?_
          rintro _ _ ⟨rfl, rfl⟩
          refine KO.done ?_
          refine K.seq <| K.seq ?_
          refine K.region ?_
          refine KO.q rfl (q_assign rfl) ?_
          refine KO.done ?_
          refine K.block ?_
          refine K.rounds2 (ι := { x : Nat × (Option Addr × Nat) × Option Addr × Nat // x.1 ≤ N }) (fun x => [(12, .int .i64 x.1.1), (10, .pointer (some ⟨b10, 0, none⟩)), (11, .pointer (some ⟨b11, 0, none⟩)), (0, .int .i64 N), (1, .int .i64 ka), (2, .bool taken), (3, .bool gone)]) (fun x => [pv b10 24 (Sz.cells ⟨100, some ⟨b37, 0, none⟩, 1, [ozq [] none 0]⟩), pv b11 24 (Sz.cells ⟨100, some ⟨b40, 0, none⟩, 1, [ozq [] none 0]⟩), RowO Kd.oz 33 (some ⟨b37, 0, none⟩) 1 [ozq (lA x.1.1) x.1.2.1.1 x.1.2.1.2], RowO Kd.msg 39 x.1.2.1.1 x.1.2.1.2 (lA x.1.1), RowO Kd.oz 33 (some ⟨b40, 0, none⟩) 1 [ozq (lB ka gone x.1.1) x.1.2.2.1 x.1.2.2.2], RowO Kd.msg 39 x.1.2.2.1 x.1.2.2.2 (lB ka gone x.1.1)] ++ L2) (fun x => N - x.1.1) ⟨(0, (none, 0), none, 0), Nat.zero_le _⟩ (by repeat (first | exact Env.sub_nil _ | refine Env.sub_cons rfl ?_)) (fun w h => h.fitD) (fun x ih => ?_)
          obtain ⟨⟨i, ⟨qa, ca⟩, qb, cb⟩, hi⟩ := x
          dsimp only at hi ⊢
          have hla := lA_len i
          have hlb := lB_len ka gone i
          have hAs := lA_succ i
          refine K.seq <| K.seq ?_
          refine K.region ?_
          refine KO.q rfl (q_move rfl) ?_
          refine KO.q rfl (q_move rfl) ?_
          refine KO.q rfl (q_lt rfl rfl) ?_
          refine KO.done ?_
          refine K.dcond (s := 44) rfl (fun g44 => ?_) (fun g44 => ?_)
          · refine K.skip <| K.seq <| K.block <| K.seq ?_
            refine K.region ?_
            refine KO.q rfl (q_move rfl) ?_
            refine KO.q rfl (q_add rfl rfl (by first | omega | (simp; omega)) (by first | omega | (simp; omega))) ?_
            refine KO.q rfl (q_as (q_build st_39 rfl (by repeat (first | exact Fill.nil | (apply Fill.cons; rfl; rfl; rfl) | exact SetN.nil | apply SetN.cons | exact SetAt.here | apply SetAt.there))) (show _ = (mL i).cells from rfl)) ?_
            refine KO.loud rfl (l_alloc zo_39) ?_
            rintro _ _ ⟨b13, rfl, rfl⟩
            refine KO.loudN rfl (l_storeAll ck_39 rfl rfl ⟨rfl, rfl⟩ (msg_one _) (by repeat (first | exact Pick.here | apply Pick.there))) ?_
            rintro _ _ ⟨rfl, rfl⟩
            refine KO.done ?_
            refine K.seq ?_
            refine K.drawS [pv b10 24 (Sz.cells ⟨100, some ⟨b37, 0, none⟩, 1, [ozq [] none 0]⟩), pv b13 39 (mL i).cells, RowO Kd.oz 33 (some ⟨b37, 0, none⟩) 1 [ozq (lA i) qa ca]] (fun _ h => h.subD) mixed ?_
            refine D.q 0 rfl (by kernel_rfl) (by kernel_rfl) (q_field fo_24_1 rfl) (fun _ h => h.subD) ?_
            refine D.q 1 rfl (by kernel_rfl) (by kernel_rfl) (q_load1D ck_22 rfl) (fun _ h => h.subD) ?_
            refine D.q 2 rfl (by kernel_rfl) (by kernel_rfl) (q_field fo_24_1 rfl) (fun _ h => h.subD) ?_
            refine D.q 3 rfl (by kernel_rfl) (by kernel_rfl) (q_load1D ck_22 rfl) (fun _ h => h.subD) ?_
            refine D.q 4 rfl (by kernel_rfl) (by kernel_rfl) (q_ix (xs := [ozq (lA i) qa ca]) 0 se_22 rfl rfl rfl isO (by repeat (first | exact List.Mem.head _ | apply List.Mem.tail)) rfl Nat.zero_lt_one) (fun _ h => h.subD) ?_
            refine D.q 5 rfl (by kernel_rfl) (by kernel_rfl) (q_fieldE fo_33_4 rfl) (fun _ h => h.subD) ?_
            refine D.q 7 rfl (by kernel_rfl) (by kernel_rfl) (q_loadN ck_39 rfl rfl (by first | (apply cells_pv; (repeat (first | exact List.Mem.head _ | apply List.Mem.tail))) | (apply cells_fv; (repeat (first | exact List.Mem.head _ | apply List.Mem.tail))))) (fun _ h => h.subD) ?_
            refine D.all (rs := [6, 8]) (by kernel_rfl) rfl (DAll.cons rfl (by kernel_rfl) (OpQ.loud (q_ldE (xs := [ozq (lA i) qa ca]) ck_31 rfl isO (by repeat (first | exact List.Mem.head _ | apply List.Mem.tail)) (show [ozq (lA i) qa ca][0]? = some (ozq (lA i) qa ca) from rfl) rfl)) (.inr (by rintro _ _ ⟨rfl, rfl⟩ w h; exact h.subD)) rfl ?_ (DAll.cons rfl (by kernel_rfl) (l_slice1 sz_31_1 rfl rfl ⟨rfl, rfl, rfl⟩) (.inr (by rintro _ _ ⟨b58, rfl, rfl⟩ w h; exact h.subD)) rfl ?_ DAll.nil))
            · rintro _ _ ⟨rfl, rfl⟩
              refine D.all (rs := [8]) (by kernel_rfl) rfl (DAll.cons rfl (by kernel_rfl) (l_slice1 sz_31_1 rfl rfl ⟨rfl, rfl, rfl⟩) (.inr (by rintro _ _ ⟨b58, rfl, rfl⟩ w h; exact h.subD)) rfl ?_ DAll.nil)
              rintro _ _ ⟨b58, rfl, rfl⟩
              refine D.all (rs := [9]) (by kernel_rfl) rfl (DAll.cons rfl (by kernel_rfl) (l_append Kd.msg (ys := [mL i]) se_31 Tryz.underlying31 ⟨_, ze_39, rfl⟩ (by decide) rfl rfl (by repeat (first | exact Pick.here | apply Pick.there)) isP (by repeat (first | exact List.Mem.head _ | apply List.Mem.tail)) rfl rfl (by show (2 * ((lA i).length + 1) + 768) * _ ≤ _; omega)) (.inr (by rintro _ _ ⟨pn, dn, rfl, rfl⟩ w h; exact h.subD)) rfl ?_ DAll.nil)
              rintro _ _ ⟨pn, dn, rfl, rfl⟩
              refine D.all (rs := [10]) (by kernel_rfl) rfl (DAll.cons rfl (by kernel_rfl) (OpQ.loud (q_ix (xs := [ozq (lA i) qa ca]) 0 se_22 rfl rfl rfl isO (by repeat (first | exact List.Mem.head _ | apply List.Mem.tail)) rfl Nat.zero_lt_one)) (.inl (by kernel_rfl)) rfl ?_ DAll.nil)
              rintro _ _ ⟨rfl, rfl⟩
              refine D.all (rs := [11]) (by kernel_rfl) rfl (DAll.cons rfl (by kernel_rfl) (OpQ.loud (q_fieldE fo_33_4 rfl)) (.inl (by kernel_rfl)) rfl ?_ DAll.nil)
              rintro _ _ ⟨rfl, rfl⟩
              refine D.all (rs := [12]) (by kernel_rfl) rfl (DAll.consN rfl (by kernel_rfl) (l_storeE (xs := [ozq (lA i) qa ca]) (el := ozq (lA i) qa ca) (ozq (lA i ++ [mL i]) pn dn) ck_31 rfl rfl rfl (by repeat (first | exact Pick.here | apply Pick.there)) rfl (by decide) rfl) (.inl (by kernel_rfl)) rfl ?_ DAll.nil)
              rintro _ _ ⟨rfl, rfl⟩
              refine D.done (by kernel_rfl) ?_
              refine K.seq ?_
              refine K.region ?_
              refine KO.q rfl (q_move rfl) ?_
              refine KO.q rfl (q_move rfl) ?_
              refine KO.q rfl (q_ne rfl rfl) ?_
              refine KO.q rfl (q_move rfl) ?_
              refine KO.dsplit 65 rfl (fun g65 => ?_) (fun g65 => ?_)
              · have hBs : lB ka gone (i + 1) = lB ka gone i ++ [mL i] := lB_yes (.inl (by omega))
                refine KO.skip rfl ?_
                refine KO.skip rfl ?_
                refine KO.q rfl (q_pickT rfl rfl) ?_
                refine KO.done ?_
                refine K.yes rfl ?_
                refine K.drawS [pv b11 24 (Sz.cells ⟨100, some ⟨b40, 0, none⟩, 1, [ozq [] none 0]⟩), pv b13 39 (mL i).cells, RowO Kd.oz 33 (some ⟨b40, 0, none⟩) 1 [ozq (lB ka gone i) qb cb]] (fun _ h => h.subD) mixed ?_
                refine D.q 0 rfl (by kernel_rfl) (by kernel_rfl) (q_field fo_24_1 rfl) (fun _ h => h.subD) ?_
                refine D.q 1 rfl (by kernel_rfl) (by kernel_rfl) (q_load1D ck_22 rfl) (fun _ h => h.subD) ?_
                refine D.q 2 rfl (by kernel_rfl) (by kernel_rfl) (q_field fo_24_1 rfl) (fun _ h => h.subD) ?_
                refine D.q 3 rfl (by kernel_rfl) (by kernel_rfl) (q_load1D ck_22 rfl) (fun _ h => h.subD) ?_
                refine D.q 4 rfl (by kernel_rfl) (by kernel_rfl) (q_ix (xs := [ozq (lB ka gone i) qb cb]) 0 se_22 rfl rfl rfl isO (by repeat (first | exact List.Mem.head _ | apply List.Mem.tail)) rfl Nat.zero_lt_one) (fun _ h => h.subD) ?_
                refine D.q 5 rfl (by kernel_rfl) (by kernel_rfl) (q_fieldE fo_33_4 rfl) (fun _ h => h.subD) ?_
                refine D.q 7 rfl (by kernel_rfl) (by kernel_rfl) (q_loadN ck_39 rfl rfl (by first | (apply cells_pv; (repeat (first | exact List.Mem.head _ | apply List.Mem.tail))) | (apply cells_fv; (repeat (first | exact List.Mem.head _ | apply List.Mem.tail))))) (fun _ h => h.subD) ?_
                refine D.all (rs := [6, 8]) (by kernel_rfl) rfl (DAll.cons rfl (by kernel_rfl) (OpQ.loud (q_ldE (xs := [ozq (lB ka gone i) qb cb]) ck_31 rfl isO (by repeat (first | exact List.Mem.head _ | apply List.Mem.tail)) (show [ozq (lB ka gone i) qb cb][0]? = some (ozq (lB ka gone i) qb cb) from rfl) rfl)) (.inr (by rintro _ _ ⟨rfl, rfl⟩ w h; exact h.subD)) rfl ?_ (DAll.cons rfl (by kernel_rfl) (l_slice1 sz_31_1 rfl rfl ⟨rfl, rfl, rfl⟩) (.inr (by rintro _ _ ⟨b77, rfl, rfl⟩ w h; exact h.subD)) rfl ?_ DAll.nil))
                · rintro _ _ ⟨rfl, rfl⟩
                  refine D.all (rs := [8]) (by kernel_rfl) rfl (DAll.cons rfl (by kernel_rfl) (l_slice1 sz_31_1 rfl rfl ⟨rfl, rfl, rfl⟩) (.inr (by rintro _ _ ⟨b77, rfl, rfl⟩ w h; exact h.subD)) rfl ?_ DAll.nil)
                  rintro _ _ ⟨b77, rfl, rfl⟩
                  refine D.all (rs := [9]) (by kernel_rfl) rfl (DAll.cons rfl (by kernel_rfl) (l_append Kd.msg (ys := [mL i]) se_31 Tryz.underlying31 ⟨_, ze_39, rfl⟩ (by decide) rfl rfl (by repeat (first | exact Pick.here | apply Pick.there)) isP (by repeat (first | exact List.Mem.head _ | apply List.Mem.tail)) rfl rfl (by show (2 * ((lB ka gone i).length + 1) + 768) * _ ≤ _; omega)) (.inr (by rintro _ _ ⟨pm, dm, rfl, rfl⟩ w h; exact h.subD)) rfl ?_ DAll.nil)
                  rintro _ _ ⟨pm, dm, rfl, rfl⟩
                  refine D.all (rs := [10]) (by kernel_rfl) rfl (DAll.cons rfl (by kernel_rfl) (OpQ.loud (q_ix (xs := [ozq (lB ka gone i) qb cb]) 0 se_22 rfl rfl rfl isO (by repeat (first | exact List.Mem.head _ | apply List.Mem.tail)) rfl Nat.zero_lt_one)) (.inl (by kernel_rfl)) rfl ?_ DAll.nil)
                  rintro _ _ ⟨rfl, rfl⟩
                  refine D.all (rs := [11]) (by kernel_rfl) rfl (DAll.cons rfl (by kernel_rfl) (OpQ.loud (q_fieldE fo_33_4 rfl)) (.inl (by kernel_rfl)) rfl ?_ DAll.nil)
                  rintro _ _ ⟨rfl, rfl⟩
                  refine D.all (rs := [12]) (by kernel_rfl) rfl (DAll.consN rfl (by kernel_rfl) (l_storeE (xs := [ozq (lB ka gone i) qb cb]) (el := ozq (lB ka gone i) qb cb) (ozq (lB ka gone i ++ [mL i]) pm dm) ck_31 rfl rfl rfl (by repeat (first | exact Pick.here | apply Pick.there)) rfl (by decide) rfl) (.inl (by kernel_rfl)) rfl ?_ DAll.nil)
                  rintro _ _ ⟨rfl, rfl⟩
                  refine D.done (by kernel_rfl) ?_
                  refine K.inBlock ?_
                  refine K.region ?_
                  refine KO.q rfl (q_move rfl) ?_
                  refine KO.q rfl (q_add rfl rfl (by first | omega | (simp; omega)) (by first | omega | (simp; omega))) ?_
                  refine KO.q rfl (q_assign rfl) ?_
                  refine KO.done ?_
                  exact K.weak (by repeat (first | exact Env.sub_nil _ | refine Env.sub_cons rfl ?_)) (fun w h => by dsimp only; rw [hAs, hBs]; exact h.fitD) (ih ⟨(i + 1, (pn, dn), pm, dm), by show i + 1 ≤ _; omega⟩ (by show N - (i + 1) < N - i; omega))
                · rintro _ _ ⟨b77, rfl, rfl⟩
                  refine D.all (rs := [6]) (by kernel_rfl) rfl (DAll.cons rfl (by kernel_rfl) (OpQ.loud (q_ldE (xs := [ozq (lB ka gone i) qb cb]) ck_31 rfl isO (by repeat (first | exact List.Mem.head _ | apply List.Mem.tail)) (show [ozq (lB ka gone i) qb cb][0]? = some (ozq (lB ka gone i) qb cb) from rfl) rfl)) (.inr (by rintro _ _ ⟨rfl, rfl⟩ w h; exact h.subD)) rfl ?_ DAll.nil)
                  rintro _ _ ⟨rfl, rfl⟩
                  refine D.all (rs := [9]) (by kernel_rfl) rfl (DAll.cons rfl (by kernel_rfl) (l_append Kd.msg (ys := [mL i]) se_31 Tryz.underlying31 ⟨_, ze_39, rfl⟩ (by decide) rfl rfl (by repeat (first | exact Pick.here | apply Pick.there)) isP (by repeat (first | exact List.Mem.head _ | apply List.Mem.tail)) rfl rfl (by show (2 * ((lB ka gone i).length + 1) + 768) * _ ≤ _; omega)) (.inr (by rintro _ _ ⟨pm, dm, rfl, rfl⟩ w h; exact h.subD)) rfl ?_ DAll.nil)
                  rintro _ _ ⟨pm, dm, rfl, rfl⟩
                  refine D.all (rs := [10]) (by kernel_rfl) rfl (DAll.cons rfl (by kernel_rfl) (OpQ.loud (q_ix (xs := [ozq (lB ka gone i) qb cb]) 0 se_22 rfl rfl rfl isO (by repeat (first | exact List.Mem.head _ | apply List.Mem.tail)) rfl Nat.zero_lt_one)) (.inl (by kernel_rfl)) rfl ?_ DAll.nil)
                  rintro _ _ ⟨rfl, rfl⟩
                  refine D.all (rs := [11]) (by kernel_rfl) rfl (DAll.cons rfl (by kernel_rfl) (OpQ.loud (q_fieldE fo_33_4 rfl)) (.inl (by kernel_rfl)) rfl ?_ DAll.nil)
                  rintro _ _ ⟨rfl, rfl⟩
                  refine D.all (rs := [12]) (by kernel_rfl) rfl (DAll.consN rfl (by kernel_rfl) (l_storeE (xs := [ozq (lB ka gone i) qb cb]) (el := ozq (lB ka gone i) qb cb) (ozq (lB ka gone i ++ [mL i]) pm dm) ck_31 rfl rfl rfl (by repeat (first | exact Pick.here | apply Pick.there)) rfl (by decide) rfl) (.inl (by kernel_rfl)) rfl ?_ DAll.nil)
                  rintro _ _ ⟨rfl, rfl⟩
                  refine D.done (by kernel_rfl) ?_
                  refine K.inBlock ?_
                  refine K.region ?_
                  refine KO.q rfl (q_move rfl) ?_
                  refine KO.q rfl (q_add rfl rfl (by first | omega | (simp; omega)) (by first | omega | (simp; omega))) ?_
                  refine KO.q rfl (q_assign rfl) ?_
                  refine KO.done ?_
                  exact K.weak (by repeat (first | exact Env.sub_nil _ | refine Env.sub_cons rfl ?_)) (fun w h => by dsimp only; rw [hAs, hBs]; exact h.fitD) (ih ⟨(i + 1, (pn, dn), pm, dm), by show i + 1 ≤ _; omega⟩ (by show N - (i + 1) < N - i; omega))
              · refine KO.q rfl (q_move rfl) ?_
                refine KO.q rfl (q_not rfl) ?_
                refine KO.q rfl (q_pickF rfl rfl) ?_
                refine KO.done ?_
                refine K.bcond (s := 68) rfl (fun g68 => ?_) (fun g68 => ?_)
                · have hBs : lB ka gone (i + 1) = lB ka gone i ++ [mL i] := lB_yes (.inr (by simpa using g68))
                  refine K.drawS [pv b11 24 (Sz.cells ⟨100, some ⟨b40, 0, none⟩, 1, [ozq [] none 0]⟩), pv b13 39 (mL i).cells, RowO Kd.oz 33 (some ⟨b40, 0, none⟩) 1 [ozq (lB ka gone i) qb cb]] (fun _ h => h.subD) mixed ?_
                  refine D.q 0 rfl (by kernel_rfl) (by kernel_rfl) (q_field fo_24_1 rfl) (fun _ h => h.subD) ?_
                  refine D.q 1 rfl (by kernel_rfl) (by kernel_rfl) (q_load1D ck_22 rfl) (fun _ h => h.subD) ?_
                  refine D.q 2 rfl (by kernel_rfl) (by kernel_rfl) (q_field fo_24_1 rfl) (fun _ h => h.subD) ?_
                  refine D.q 3 rfl (by kernel_rfl) (by kernel_rfl) (q_load1D ck_22 rfl) (fun _ h => h.subD) ?_
                  refine D.q 4 rfl (by kernel_rfl) (by kernel_rfl) (q_ix (xs := [ozq (lB ka gone i) qb cb]) 0 se_22 rfl rfl rfl isO (by repeat (first | exact List.Mem.head _ | apply List.Mem.tail)) rfl Nat.zero_lt_one) (fun _ h => h.subD) ?_
                  refine D.q 5 rfl (by kernel_rfl) (by kernel_rfl) (q_fieldE fo_33_4 rfl) (fun _ h => h.subD) ?_
                  refine D.q 7 rfl (by kernel_rfl) (by kernel_rfl) (q_loadN ck_39 rfl rfl (by first | (apply cells_pv; (repeat (first | exact List.Mem.head _ | apply List.Mem.tail))) | (apply cells_fv; (repeat (first | exact List.Mem.head _ | apply List.Mem.tail))))) (fun _ h => h.subD) ?_
                  refine D.all (rs := [6, 8]) (by kernel_rfl) rfl (DAll.cons rfl (by kernel_rfl) (OpQ.loud (q_ldE (xs := [ozq (lB ka gone i) qb cb]) ck_31 rfl isO (by repeat (first | exact List.Mem.head _ | apply List.Mem.tail)) (show [ozq (lB ka gone i) qb cb][0]? = some (ozq (lB ka gone i) qb cb) from rfl) rfl)) (.inr (by rintro _ _ ⟨rfl, rfl⟩ w h; exact h.subD)) rfl ?_ (DAll.cons rfl (by kernel_rfl) (l_slice1 sz_31_1 rfl rfl ⟨rfl, rfl, rfl⟩) (.inr (by rintro _ _ ⟨b77, rfl, rfl⟩ w h; exact h.subD)) rfl ?_ DAll.nil))
                  · rintro _ _ ⟨rfl, rfl⟩
                    refine D.all (rs := [8]) (by kernel_rfl) rfl (DAll.cons rfl (by kernel_rfl) (l_slice1 sz_31_1 rfl rfl ⟨rfl, rfl, rfl⟩) (.inr (by rintro _ _ ⟨b77, rfl, rfl⟩ w h; exact h.subD)) rfl ?_ DAll.nil)
                    rintro _ _ ⟨b77, rfl, rfl⟩
                    refine D.all (rs := [9]) (by kernel_rfl) rfl (DAll.cons rfl (by kernel_rfl) (l_append Kd.msg (ys := [mL i]) se_31 Tryz.underlying31 ⟨_, ze_39, rfl⟩ (by decide) rfl rfl (by repeat (first | exact Pick.here | apply Pick.there)) isP (by repeat (first | exact List.Mem.head _ | apply List.Mem.tail)) rfl rfl (by show (2 * ((lB ka gone i).length + 1) + 768) * _ ≤ _; omega)) (.inr (by rintro _ _ ⟨pm, dm, rfl, rfl⟩ w h; exact h.subD)) rfl ?_ DAll.nil)
                    rintro _ _ ⟨pm, dm, rfl, rfl⟩
                    refine D.all (rs := [10]) (by kernel_rfl) rfl (DAll.cons rfl (by kernel_rfl) (OpQ.loud (q_ix (xs := [ozq (lB ka gone i) qb cb]) 0 se_22 rfl rfl rfl isO (by repeat (first | exact List.Mem.head _ | apply List.Mem.tail)) rfl Nat.zero_lt_one)) (.inl (by kernel_rfl)) rfl ?_ DAll.nil)
                    rintro _ _ ⟨rfl, rfl⟩
                    refine D.all (rs := [11]) (by kernel_rfl) rfl (DAll.cons rfl (by kernel_rfl) (OpQ.loud (q_fieldE fo_33_4 rfl)) (.inl (by kernel_rfl)) rfl ?_ DAll.nil)
                    rintro _ _ ⟨rfl, rfl⟩
                    refine D.all (rs := [12]) (by kernel_rfl) rfl (DAll.consN rfl (by kernel_rfl) (l_storeE (xs := [ozq (lB ka gone i) qb cb]) (el := ozq (lB ka gone i) qb cb) (ozq (lB ka gone i ++ [mL i]) pm dm) ck_31 rfl rfl rfl (by repeat (first | exact Pick.here | apply Pick.there)) rfl (by decide) rfl) (.inl (by kernel_rfl)) rfl ?_ DAll.nil)
                    rintro _ _ ⟨rfl, rfl⟩
                    refine D.done (by kernel_rfl) ?_
                    refine K.inBlock ?_
                    refine K.region ?_
                    refine KO.q rfl (q_move rfl) ?_
                    refine KO.q rfl (q_add rfl rfl (by first | omega | (simp; omega)) (by first | omega | (simp; omega))) ?_
                    refine KO.q rfl (q_assign rfl) ?_
                    refine KO.done ?_
                    exact K.weak (by repeat (first | exact Env.sub_nil _ | refine Env.sub_cons rfl ?_)) (fun w h => by dsimp only; rw [hAs, hBs]; exact h.fitD) (ih ⟨(i + 1, (pn, dn), pm, dm), by show i + 1 ≤ _; omega⟩ (by show N - (i + 1) < N - i; omega))
                  · rintro _ _ ⟨b77, rfl, rfl⟩
                    refine D.all (rs := [6]) (by kernel_rfl) rfl (DAll.cons rfl (by kernel_rfl) (OpQ.loud (q_ldE (xs := [ozq (lB ka gone i) qb cb]) ck_31 rfl isO (by repeat (first | exact List.Mem.head _ | apply List.Mem.tail)) (show [ozq (lB ka gone i) qb cb][0]? = some (ozq (lB ka gone i) qb cb) from rfl) rfl)) (.inr (by rintro _ _ ⟨rfl, rfl⟩ w h; exact h.subD)) rfl ?_ DAll.nil)
                    rintro _ _ ⟨rfl, rfl⟩
                    refine D.all (rs := [9]) (by kernel_rfl) rfl (DAll.cons rfl (by kernel_rfl) (l_append Kd.msg (ys := [mL i]) se_31 Tryz.underlying31 ⟨_, ze_39, rfl⟩ (by decide) rfl rfl (by repeat (first | exact Pick.here | apply Pick.there)) isP (by repeat (first | exact List.Mem.head _ | apply List.Mem.tail)) rfl rfl (by show (2 * ((lB ka gone i).length + 1) + 768) * _ ≤ _; omega)) (.inr (by rintro _ _ ⟨pm, dm, rfl, rfl⟩ w h; exact h.subD)) rfl ?_ DAll.nil)
                    rintro _ _ ⟨pm, dm, rfl, rfl⟩
                    refine D.all (rs := [10]) (by kernel_rfl) rfl (DAll.cons rfl (by kernel_rfl) (OpQ.loud (q_ix (xs := [ozq (lB ka gone i) qb cb]) 0 se_22 rfl rfl rfl isO (by repeat (first | exact List.Mem.head _ | apply List.Mem.tail)) rfl Nat.zero_lt_one)) (.inl (by kernel_rfl)) rfl ?_ DAll.nil)
                    rintro _ _ ⟨rfl, rfl⟩
                    refine D.all (rs := [11]) (by kernel_rfl) rfl (DAll.cons rfl (by kernel_rfl) (OpQ.loud (q_fieldE fo_33_4 rfl)) (.inl (by kernel_rfl)) rfl ?_ DAll.nil)
                    rintro _ _ ⟨rfl, rfl⟩
                    refine D.all (rs := [12]) (by kernel_rfl) rfl (DAll.consN rfl (by kernel_rfl) (l_storeE (xs := [ozq (lB ka gone i) qb cb]) (el := ozq (lB ka gone i) qb cb) (ozq (lB ka gone i ++ [mL i]) pm dm) ck_31 rfl rfl rfl (by repeat (first | exact Pick.here | apply Pick.there)) rfl (by decide) rfl) (.inl (by kernel_rfl)) rfl ?_ DAll.nil)
                    rintro _ _ ⟨rfl, rfl⟩
                    refine D.done (by kernel_rfl) ?_
                    refine K.inBlock ?_
                    refine K.region ?_
                    refine KO.q rfl (q_move rfl) ?_
                    refine KO.q rfl (q_add rfl rfl (by first | omega | (simp; omega)) (by first | omega | (simp; omega))) ?_
                    refine KO.q rfl (q_assign rfl) ?_
                    refine KO.done ?_
                    exact K.weak (by repeat (first | exact Env.sub_nil _ | refine Env.sub_cons rfl ?_)) (fun w h => by dsimp only; rw [hAs, hBs]; exact h.fitD) (ih ⟨(i + 1, (pn, dn), pm, dm), by show i + 1 ≤ _; omega⟩ (by show N - (i + 1) < N - i; omega))
                · have hBs : lB ka gone (i + 1) = lB ka gone i := lB_no (by omega) (by simpa using g68)
                  refine K.skip <| K.inBlock ?_
                  refine K.region ?_
                  refine KO.q rfl (q_move rfl) ?_
                  refine KO.q rfl (q_add rfl rfl (by first | omega | (simp; omega)) (by first | omega | (simp; omega))) ?_
                  refine KO.q rfl (q_assign rfl) ?_
                  refine KO.done ?_
                  exact K.weak (by repeat (first | exact Env.sub_nil _ | refine Env.sub_cons rfl ?_)) (fun w h => by dsimp only; rw [hAs, hBs]; exact h.fitD) (ih ⟨(i + 1, (pn, dn), qb, cb), by show i + 1 ≤ _; omega⟩ (by show N - (i + 1) < N - i; omega))
            · rintro _ _ ⟨b58, rfl, rfl⟩
              refine D.all (rs := [6]) (by kernel_rfl) rfl (DAll.cons rfl (by kernel_rfl) (OpQ.loud (q_ldE (xs := [ozq (lA i) qa ca]) ck_31 rfl isO (by repeat (first | exact List.Mem.head _ | apply List.Mem.tail)) (show [ozq (lA i) qa ca][0]? = some (ozq (lA i) qa ca) from rfl) rfl)) (.inr (by rintro _ _ ⟨rfl, rfl⟩ w h; exact h.subD)) rfl ?_ DAll.nil)
              rintro _ _ ⟨rfl, rfl⟩
              refine D.all (rs := [9]) (by kernel_rfl) rfl (DAll.cons rfl (by kernel_rfl) (l_append Kd.msg (ys := [mL i]) se_31 Tryz.underlying31 ⟨_, ze_39, rfl⟩ (by decide) rfl rfl (by repeat (first | exact Pick.here | apply Pick.there)) isP (by repeat (first | exact List.Mem.head _ | apply List.Mem.tail)) rfl rfl (by show (2 * ((lA i).length + 1) + 768) * _ ≤ _; omega)) (.inr (by rintro _ _ ⟨pn, dn, rfl, rfl⟩ w h; exact h.subD)) rfl ?_ DAll.nil)
              rintro _ _ ⟨pn, dn, rfl, rfl⟩
              refine D.all (rs := [10]) (by kernel_rfl) rfl (DAll.cons rfl (by kernel_rfl) (OpQ.loud (q_ix (xs := [ozq (lA i) qa ca]) 0 se_22 rfl rfl rfl isO (by repeat (first | exact List.Mem.head _ | apply List.Mem.tail)) rfl Nat.zero_lt_one)) (.inl (by kernel_rfl)) rfl ?_ DAll.nil)
              rintro _ _ ⟨rfl, rfl⟩
              refine D.all (rs := [11]) (by kernel_rfl) rfl (DAll.cons rfl (by kernel_rfl) (OpQ.loud (q_fieldE fo_33_4 rfl)) (.inl (by kernel_rfl)) rfl ?_ DAll.nil)
              rintro _ _ ⟨rfl, rfl⟩
              refine D.all (rs := [12]) (by kernel_rfl) rfl (DAll.consN rfl (by kernel_rfl) (l_storeE (xs := [ozq (lA i) qa ca]) (el := ozq (lA i) qa ca) (ozq (lA i ++ [mL i]) pn dn) ck_31 rfl rfl rfl (by repeat (first | exact Pick.here | apply Pick.there)) rfl (by decide) rfl) (.inl (by kernel_rfl)) rfl ?_ DAll.nil)
              rintro _ _ ⟨rfl, rfl⟩
              refine D.done (by kernel_rfl) ?_
              refine K.seq ?_
              refine K.region ?_
              refine KO.q rfl (q_move rfl) ?_
              refine KO.q rfl (q_move rfl) ?_
              refine KO.q rfl (q_ne rfl rfl) ?_
              refine KO.q rfl (q_move rfl) ?_
              refine KO.dsplit 65 rfl (fun g65 => ?_) (fun g65 => ?_)
              · have hBs : lB ka gone (i + 1) = lB ka gone i ++ [mL i] := lB_yes (.inl (by omega))
                refine KO.skip rfl ?_
                refine KO.skip rfl ?_
                refine KO.q rfl (q_pickT rfl rfl) ?_
                refine KO.done ?_
                refine K.yes rfl ?_
                refine K.drawS [pv b11 24 (Sz.cells ⟨100, some ⟨b40, 0, none⟩, 1, [ozq [] none 0]⟩), pv b13 39 (mL i).cells, RowO Kd.oz 33 (some ⟨b40, 0, none⟩) 1 [ozq (lB ka gone i) qb cb]] (fun _ h => h.subD) mixed ?_
                refine D.q 0 rfl (by kernel_rfl) (by kernel_rfl) (q_field fo_24_1 rfl) (fun _ h => h.subD) ?_
                refine D.q 1 rfl (by kernel_rfl) (by kernel_rfl) (q_load1D ck_22 rfl) (fun _ h => h.subD) ?_
                refine D.q 2 rfl (by kernel_rfl) (by kernel_rfl) (q_field fo_24_1 rfl) (fun _ h => h.subD) ?_
                refine D.q 3 rfl (by kernel_rfl) (by kernel_rfl) (q_load1D ck_22 rfl) (fun _ h => h.subD) ?_
                refine D.q 4 rfl (by kernel_rfl) (by kernel_rfl) (q_ix (xs := [ozq (lB ka gone i) qb cb]) 0 se_22 rfl rfl rfl isO (by repeat (first | exact List.Mem.head _ | apply List.Mem.tail)) rfl Nat.zero_lt_one) (fun _ h => h.subD) ?_
                refine D.q 5 rfl (by kernel_rfl) (by kernel_rfl) (q_fieldE fo_33_4 rfl) (fun _ h => h.subD) ?_
                refine D.q 7 rfl (by kernel_rfl) (by kernel_rfl) (q_loadN ck_39 rfl rfl (by first | (apply cells_pv; (repeat (first | exact List.Mem.head _ | apply List.Mem.tail))) | (apply cells_fv; (repeat (first | exact List.Mem.head _ | apply List.Mem.tail))))) (fun _ h => h.subD) ?_
                refine D.all (rs := [6, 8]) (by kernel_rfl) rfl (DAll.cons rfl (by kernel_rfl) (OpQ.loud (q_ldE (xs := [ozq (lB ka gone i) qb cb]) ck_31 rfl isO (by repeat (first | exact List.Mem.head _ | apply List.Mem.tail)) (show [ozq (lB ka gone i) qb cb][0]? = some (ozq (lB ka gone i) qb cb) from rfl) rfl)) (.inr (by rintro _ _ ⟨rfl, rfl⟩ w h; exact h.subD)) rfl ?_ (DAll.cons rfl (by kernel_rfl) (l_slice1 sz_31_1 rfl rfl ⟨rfl, rfl, rfl⟩) (.inr (by rintro _ _ ⟨b77, rfl, rfl⟩ w h; exact h.subD)) rfl ?_ DAll.nil))
                · rintro _ _ ⟨rfl, rfl⟩
                  refine D.all (rs := [8]) (by kernel_rfl) rfl (DAll.cons rfl (by kernel_rfl) (l_slice1 sz_31_1 rfl rfl ⟨rfl, rfl, rfl⟩) (.inr (by rintro _ _ ⟨b77, rfl, rfl⟩ w h; exact h.subD)) rfl ?_ DAll.nil)
                  rintro _ _ ⟨b77, rfl, rfl⟩
                  refine D.all (rs := [9]) (by kernel_rfl) rfl (DAll.cons rfl (by kernel_rfl) (l_append Kd.msg (ys := [mL i]) se_31 Tryz.underlying31 ⟨_, ze_39, rfl⟩ (by decide) rfl rfl (by repeat (first | exact Pick.here | apply Pick.there)) isP (by repeat (first | exact List.Mem.head _ | apply List.Mem.tail)) rfl rfl (by show (2 * ((lB ka gone i).length + 1) + 768) * _ ≤ _; omega)) (.inr (by rintro _ _ ⟨pm, dm, rfl, rfl⟩ w h; exact h.subD)) rfl ?_ DAll.nil)
                  rintro _ _ ⟨pm, dm, rfl, rfl⟩
                  refine D.all (rs := [10]) (by kernel_rfl) rfl (DAll.cons rfl (by kernel_rfl) (OpQ.loud (q_ix (xs := [ozq (lB ka gone i) qb cb]) 0 se_22 rfl rfl rfl isO (by repeat (first | exact List.Mem.head _ | apply List.Mem.tail)) rfl Nat.zero_lt_one)) (.inl (by kernel_rfl)) rfl ?_ DAll.nil)
                  rintro _ _ ⟨rfl, rfl⟩
                  refine D.all (rs := [11]) (by kernel_rfl) rfl (DAll.cons rfl (by kernel_rfl) (OpQ.loud (q_fieldE fo_33_4 rfl)) (.inl (by kernel_rfl)) rfl ?_ DAll.nil)
                  rintro _ _ ⟨rfl, rfl⟩
                  refine D.all (rs := [12]) (by kernel_rfl) rfl (DAll.consN rfl (by kernel_rfl) (l_storeE (xs := [ozq (lB ka gone i) qb cb]) (el := ozq (lB ka gone i) qb cb) (ozq (lB ka gone i ++ [mL i]) pm dm) ck_31 rfl rfl rfl (by repeat (first | exact Pick.here | apply Pick.there)) rfl (by decide) rfl) (.inl (by kernel_rfl)) rfl ?_ DAll.nil)
                  rintro _ _ ⟨rfl, rfl⟩
                  refine D.done (by kernel_rfl) ?_
                  refine K.inBlock ?_
                  refine K.region ?_
                  refine KO.q rfl (q_move rfl) ?_
                  refine KO.q rfl (q_add rfl rfl (by first | omega | (simp; omega)) (by first | omega | (simp; omega))) ?_
                  refine KO.q rfl (q_assign rfl) ?_
                  refine KO.done ?_
                  exact K.weak (by repeat (first | exact Env.sub_nil _ | refine Env.sub_cons rfl ?_)) (fun w h => by dsimp only; rw [hAs, hBs]; exact h.fitD) (ih ⟨(i + 1, (pn, dn), pm, dm), by show i + 1 ≤ _; omega⟩ (by show N - (i + 1) < N - i; omega))
                · rintro _ _ ⟨b77, rfl, rfl⟩
                  refine D.all (rs := [6]) (by kernel_rfl) rfl (DAll.cons rfl (by kernel_rfl) (OpQ.loud (q_ldE (xs := [ozq (lB ka gone i) qb cb]) ck_31 rfl isO (by repeat (first | exact List.Mem.head _ | apply List.Mem.tail)) (show [ozq (lB ka gone i) qb cb][0]? = some (ozq (lB ka gone i) qb cb) from rfl) rfl)) (.inr (by rintro _ _ ⟨rfl, rfl⟩ w h; exact h.subD)) rfl ?_ DAll.nil)
                  rintro _ _ ⟨rfl, rfl⟩
                  refine D.all (rs := [9]) (by kernel_rfl) rfl (DAll.cons rfl (by kernel_rfl) (l_append Kd.msg (ys := [mL i]) se_31 Tryz.underlying31 ⟨_, ze_39, rfl⟩ (by decide) rfl rfl (by repeat (first | exact Pick.here | apply Pick.there)) isP (by repeat (first | exact List.Mem.head _ | apply List.Mem.tail)) rfl rfl (by show (2 * ((lB ka gone i).length + 1) + 768) * _ ≤ _; omega)) (.inr (by rintro _ _ ⟨pm, dm, rfl, rfl⟩ w h; exact h.subD)) rfl ?_ DAll.nil)
                  rintro _ _ ⟨pm, dm, rfl, rfl⟩
                  refine D.all (rs := [10]) (by kernel_rfl) rfl (DAll.cons rfl (by kernel_rfl) (OpQ.loud (q_ix (xs := [ozq (lB ka gone i) qb cb]) 0 se_22 rfl rfl rfl isO (by repeat (first | exact List.Mem.head _ | apply List.Mem.tail)) rfl Nat.zero_lt_one)) (.inl (by kernel_rfl)) rfl ?_ DAll.nil)
                  rintro _ _ ⟨rfl, rfl⟩
                  refine D.all (rs := [11]) (by kernel_rfl) rfl (DAll.cons rfl (by kernel_rfl) (OpQ.loud (q_fieldE fo_33_4 rfl)) (.inl (by kernel_rfl)) rfl ?_ DAll.nil)
                  rintro _ _ ⟨rfl, rfl⟩
                  refine D.all (rs := [12]) (by kernel_rfl) rfl (DAll.consN rfl (by kernel_rfl) (l_storeE (xs := [ozq (lB ka gone i) qb cb]) (el := ozq (lB ka gone i) qb cb) (ozq (lB ka gone i ++ [mL i]) pm dm) ck_31 rfl rfl rfl (by repeat (first | exact Pick.here | apply Pick.there)) rfl (by decide) rfl) (.inl (by kernel_rfl)) rfl ?_ DAll.nil)
                  rintro _ _ ⟨rfl, rfl⟩
                  refine D.done (by kernel_rfl) ?_
                  refine K.inBlock ?_
                  refine K.region ?_
                  refine KO.q rfl (q_move rfl) ?_
                  refine KO.q rfl (q_add rfl rfl (by first | omega | (simp; omega)) (by first | omega | (simp; omega))) ?_
                  refine KO.q rfl (q_assign rfl) ?_
                  refine KO.done ?_
                  exact K.weak (by repeat (first | exact Env.sub_nil _ | refine Env.sub_cons rfl ?_)) (fun w h => by dsimp only; rw [hAs, hBs]; exact h.fitD) (ih ⟨(i + 1, (pn, dn), pm, dm), by show i + 1 ≤ _; omega⟩ (by show N - (i + 1) < N - i; omega))
              · refine KO.q rfl (q_move rfl) ?_
                refine KO.q rfl (q_not rfl) ?_
                refine KO.q rfl (q_pickF rfl rfl) ?_
                refine KO.done ?_
                refine K.bcond (s := 68) rfl (fun g68 => ?_) (fun g68 => ?_)
                · have hBs : lB ka gone (i + 1) = lB ka gone i ++ [mL i] := lB_yes (.inr (by simpa using g68))
                  refine K.drawS [pv b11 24 (Sz.cells ⟨100, some ⟨b40, 0, none⟩, 1, [ozq [] none 0]⟩), pv b13 39 (mL i).cells, RowO Kd.oz 33 (some ⟨b40, 0, none⟩) 1 [ozq (lB ka gone i) qb cb]] (fun _ h => h.subD) mixed ?_
                  refine D.q 0 rfl (by kernel_rfl) (by kernel_rfl) (q_field fo_24_1 rfl) (fun _ h => h.subD) ?_
                  refine D.q 1 rfl (by kernel_rfl) (by kernel_rfl) (q_load1D ck_22 rfl) (fun _ h => h.subD) ?_
                  refine D.q 2 rfl (by kernel_rfl) (by kernel_rfl) (q_field fo_24_1 rfl) (fun _ h => h.subD) ?_
                  refine D.q 3 rfl (by kernel_rfl) (by kernel_rfl) (q_load1D ck_22 rfl) (fun _ h => h.subD) ?_
                  refine D.q 4 rfl (by kernel_rfl) (by kernel_rfl) (q_ix (xs := [ozq (lB ka gone i) qb cb]) 0 se_22 rfl rfl rfl isO (by repeat (first | exact List.Mem.head _ | apply List.Mem.tail)) rfl Nat.zero_lt_one) (fun _ h => h.subD) ?_
                  refine D.q 5 rfl (by kernel_rfl) (by kernel_rfl) (q_fieldE fo_33_4 rfl) (fun _ h => h.subD) ?_
                  refine D.q 7 rfl (by kernel_rfl) (by kernel_rfl) (q_loadN ck_39 rfl rfl (by first | (apply cells_pv; (repeat (first | exact List.Mem.head _ | apply List.Mem.tail))) | (apply cells_fv; (repeat (first | exact List.Mem.head _ | apply List.Mem.tail))))) (fun _ h => h.subD) ?_
                  refine D.all (rs := [6, 8]) (by kernel_rfl) rfl (DAll.cons rfl (by kernel_rfl) (OpQ.loud (q_ldE (xs := [ozq (lB ka gone i) qb cb]) ck_31 rfl isO (by repeat (first | exact List.Mem.head _ | apply List.Mem.tail)) (show [ozq (lB ka gone i) qb cb][0]? = some (ozq (lB ka gone i) qb cb) from rfl) rfl)) (.inr (by rintro _ _ ⟨rfl, rfl⟩ w h; exact h.subD)) rfl ?_ (DAll.cons rfl (by kernel_rfl) (l_slice1 sz_31_1 rfl rfl ⟨rfl, rfl, rfl⟩) (.inr (by rintro _ _ ⟨b77, rfl, rfl⟩ w h; exact h.subD)) rfl ?_ DAll.nil))
                  · rintro _ _ ⟨rfl, rfl⟩
                    refine D.all (rs := [8]) (by kernel_rfl) rfl (DAll.cons rfl (by kernel_rfl) (l_slice1 sz_31_1 rfl rfl ⟨rfl, rfl, rfl⟩) (.inr (by rintro _ _ ⟨b77, rfl, rfl⟩ w h; exact h.subD)) rfl ?_ DAll.nil)
                    rintro _ _ ⟨b77, rfl, rfl⟩
                    refine D.all (rs := [9]) (by kernel_rfl) rfl (DAll.cons rfl (by kernel_rfl) (l_append Kd.msg (ys := [mL i]) se_31 Tryz.underlying31 ⟨_, ze_39, rfl⟩ (by decide) rfl rfl (by repeat (first | exact Pick.here | apply Pick.there)) isP (by repeat (first | exact List.Mem.head _ | apply List.Mem.tail)) rfl rfl (by show (2 * ((lB ka gone i).length + 1) + 768) * _ ≤ _; omega)) (.inr (by rintro _ _ ⟨pm, dm, rfl, rfl⟩ w h; exact h.subD)) rfl ?_ DAll.nil)
                    rintro _ _ ⟨pm, dm, rfl, rfl⟩
                    refine D.all (rs := [10]) (by kernel_rfl) rfl (DAll.cons rfl (by kernel_rfl) (OpQ.loud (q_ix (xs := [ozq (lB ka gone i) qb cb]) 0 se_22 rfl rfl rfl isO (by repeat (first | exact List.Mem.head _ | apply List.Mem.tail)) rfl Nat.zero_lt_one)) (.inl (by kernel_rfl)) rfl ?_ DAll.nil)
                    rintro _ _ ⟨rfl, rfl⟩
                    refine D.all (rs := [11]) (by kernel_rfl) rfl (DAll.cons rfl (by kernel_rfl) (OpQ.loud (q_fieldE fo_33_4 rfl)) (.inl (by kernel_rfl)) rfl ?_ DAll.nil)
                    rintro _ _ ⟨rfl, rfl⟩
                    refine D.all (rs := [12]) (by kernel_rfl) rfl (DAll.consN rfl (by kernel_rfl) (l_storeE (xs := [ozq (lB ka gone i) qb cb]) (el := ozq (lB ka gone i) qb cb) (ozq (lB ka gone i ++ [mL i]) pm dm) ck_31 rfl rfl rfl (by repeat (first | exact Pick.here | apply Pick.there)) rfl (by decide) rfl) (.inl (by kernel_rfl)) rfl ?_ DAll.nil)
                    rintro _ _ ⟨rfl, rfl⟩
                    refine D.done (by kernel_rfl) ?_
                    refine K.inBlock ?_
                    refine K.region ?_
                    refine KO.q rfl (q_move rfl) ?_
                    refine KO.q rfl (q_add rfl rfl (by first | omega | (simp; omega)) (by first | omega | (simp; omega))) ?_
                    refine KO.q rfl (q_assign rfl) ?_
                    refine KO.done ?_
                    exact K.weak (by repeat (first | exact Env.sub_nil _ | refine Env.sub_cons rfl ?_)) (fun w h => by dsimp only; rw [hAs, hBs]; exact h.fitD) (ih ⟨(i + 1, (pn, dn), pm, dm), by show i + 1 ≤ _; omega⟩ (by show N - (i + 1) < N - i; omega))
                  · rintro _ _ ⟨b77, rfl, rfl⟩
                    refine D.all (rs := [6]) (by kernel_rfl) rfl (DAll.cons rfl (by kernel_rfl) (OpQ.loud (q_ldE (xs := [ozq (lB ka gone i) qb cb]) ck_31 rfl isO (by repeat (first | exact List.Mem.head _ | apply List.Mem.tail)) (show [ozq (lB ka gone i) qb cb][0]? = some (ozq (lB ka gone i) qb cb) from rfl) rfl)) (.inr (by rintro _ _ ⟨rfl, rfl⟩ w h; exact h.subD)) rfl ?_ DAll.nil)
                    rintro _ _ ⟨rfl, rfl⟩
                    refine D.all (rs := [9]) (by kernel_rfl) rfl (DAll.cons rfl (by kernel_rfl) (l_append Kd.msg (ys := [mL i]) se_31 Tryz.underlying31 ⟨_, ze_39, rfl⟩ (by decide) rfl rfl (by repeat (first | exact Pick.here | apply Pick.there)) isP (by repeat (first | exact List.Mem.head _ | apply List.Mem.tail)) rfl rfl (by show (2 * ((lB ka gone i).length + 1) + 768) * _ ≤ _; omega)) (.inr (by rintro _ _ ⟨pm, dm, rfl, rfl⟩ w h; exact h.subD)) rfl ?_ DAll.nil)
                    rintro _ _ ⟨pm, dm, rfl, rfl⟩
                    refine D.all (rs := [10]) (by kernel_rfl) rfl (DAll.cons rfl (by kernel_rfl) (OpQ.loud (q_ix (xs := [ozq (lB ka gone i) qb cb]) 0 se_22 rfl rfl rfl isO (by repeat (first | exact List.Mem.head _ | apply List.Mem.tail)) rfl Nat.zero_lt_one)) (.inl (by kernel_rfl)) rfl ?_ DAll.nil)
                    rintro _ _ ⟨rfl, rfl⟩
                    refine D.all (rs := [11]) (by kernel_rfl) rfl (DAll.cons rfl (by kernel_rfl) (OpQ.loud (q_fieldE fo_33_4 rfl)) (.inl (by kernel_rfl)) rfl ?_ DAll.nil)
                    rintro _ _ ⟨rfl, rfl⟩
                    refine D.all (rs := [12]) (by kernel_rfl) rfl (DAll.consN rfl (by kernel_rfl) (l_storeE (xs := [ozq (lB ka gone i) qb cb]) (el := ozq (lB ka gone i) qb cb) (ozq (lB ka gone i ++ [mL i]) pm dm) ck_31 rfl rfl rfl (by repeat (first | exact Pick.here | apply Pick.there)) rfl (by decide) rfl) (.inl (by kernel_rfl)) rfl ?_ DAll.nil)
                    rintro _ _ ⟨rfl, rfl⟩
                    refine D.done (by kernel_rfl) ?_
                    refine K.inBlock ?_
                    refine K.region ?_
                    refine KO.q rfl (q_move rfl) ?_
                    refine KO.q rfl (q_add rfl rfl (by first | omega | (simp; omega)) (by first | omega | (simp; omega))) ?_
                    refine KO.q rfl (q_assign rfl) ?_
                    refine KO.done ?_
                    exact K.weak (by repeat (first | exact Env.sub_nil _ | refine Env.sub_cons rfl ?_)) (fun w h => by dsimp only; rw [hAs, hBs]; exact h.fitD) (ih ⟨(i + 1, (pn, dn), pm, dm), by show i + 1 ≤ _; omega⟩ (by show N - (i + 1) < N - i; omega))
                · have hBs : lB ka gone (i + 1) = lB ka gone i := lB_no (by omega) (by simpa using g68)
                  refine K.skip <| K.inBlock ?_
                  refine K.region ?_
                  refine KO.q rfl (q_move rfl) ?_
                  refine KO.q rfl (q_add rfl rfl (by first | omega | (simp; omega)) (by first | omega | (simp; omega))) ?_
                  refine KO.q rfl (q_assign rfl) ?_
                  refine KO.done ?_
                  exact K.weak (by repeat (first | exact Env.sub_nil _ | refine Env.sub_cons rfl ?_)) (fun w h => by dsimp only; rw [hAs, hBs]; exact h.fitD) (ih ⟨(i + 1, (pn, dn), qb, cb), by show i + 1 ≤ _; omega⟩ (by show N - (i + 1) < N - i; omega))
          · obtain rfl : i = N := by omega
            clear ih
            refine K.st (fun w h => rowO_freeze (e := 33) (cap := 1) (k := Kd.oz) (p := some ⟨b37, 0, none⟩) (xs := [ozq (lA i) qa ca]) (h.pick (by repeat (first | exact Pick.here | apply Pick.there)))) ?_
            refine K.st (fun w h => rowO_freeze (e := 39) (cap := ca) (k := Kd.msg) (p := qa) (xs := lA i) (h.pick (by repeat (first | exact Pick.here | apply Pick.there)))) ?_
            refine K.st (fun w h => rowO_freeze (e := 33) (cap := 1) (k := Kd.oz) (p := some ⟨b40, 0, none⟩) (xs := [ozq (lB ka gone i) qb cb]) (h.pick (by repeat (first | exact Pick.here | apply Pick.there)))) ?_
            refine K.st (fun w h => rowO_freeze (e := 39) (cap := cb) (k := Kd.msg) (p := qb) (xs := lB ka gone i) (h.pick (by repeat (first | exact Pick.here | apply Pick.there)))) ?_
            refine K.st (fun w h => rowF_nilA (k := Kd.rw) h) ?_
            refine K.st (fun w h => rowF_nilA (k := Kd.msg) h) ?_
            refine K.st (fun w h => nestF_nil h) ?_
            refine K.st (fun w h => nestF_put (l := []) (l' := [ozq (lA i) qa ca]) (ozq (lA i) qa ca) (fun p hp => .inr (List.mem_singleton.1 hp)) (by repeat (first | exact List.Mem.head _ | apply List.Mem.tail)) (by repeat (first | exact List.Mem.head _ | apply List.Mem.tail)) (by repeat (first | exact List.Mem.head _ | apply List.Mem.tail)) (by repeat (first | exact List.Mem.head _ | apply List.Mem.tail)) h) ?_
            refine K.st (fun w h => nestF_put (l := []) (l' := [ozq (lB ka gone i) qb cb]) (ozq (lB ka gone i) qb cb) (fun p hp => .inr (List.mem_singleton.1 hp)) (by repeat (first | exact List.Mem.head _ | apply List.Mem.tail)) (by repeat (first | exact List.Mem.head _ | apply List.Mem.tail)) (by repeat (first | exact List.Mem.head _ | apply List.Mem.tail)) (by repeat (first | exact List.Mem.head _ | apply List.Mem.tail)) h) ?_
            refine K.st (fun w h => rowF_nilA (k := (Kd.sl : Kd (Sl Deed))) h) ?_
            refine K.st (fun w h => nestSl_nil (k := Kd.deed) h) ?_
            have hK : ka < i := by omega
            have hk2 : decide (keptP (⟨100, some ⟨b37, 0, none⟩, 1, [ozq (lA i) qa ca]⟩ : Sz).st.ids (⟨100, some ⟨b37, 0, none⟩, 1, [ozq (lA i) qa ca]⟩ : Sz).st.ids (takes [])) = true := lost_b
            have hk3 : decide (keptP (⟨100, some ⟨b40, 0, none⟩, 1, [ozq (lB ka gone i) qb cb]⟩ : Sz).st.ids (⟨100, some ⟨b37, 0, none⟩, 1, [ozq (lA i) qa ca]⟩ : Sz).st.ids (takes [])) = !gone := lost_c hK gone
            refine K.exit rfl ?_
            refine K.seq ?_
            refine K.region ?_
            refine KO.q rfl (q_assign rfl) ?_
            refine KO.done ?_
            refine K.seq <| K.seq ?_
            refine K.region ?_
            refine KO.q rfl (q_move rfl) ?_
            refine KO.done ?_
            first | refine K.dcond (s := 81) rfl (fun g81 => ?_) (fun g81 => ?_) | refine K.bcond (s := 81) rfl (fun g81 => ?_) (fun g81 => ?_)
            · have hk1 : decide (keptP (⟨100, some ⟨b37, 0, none⟩, 1, [ozq (lA i) qa ca]⟩ : Sz).st.ids (⟨100, some ⟨b40, 0, none⟩, 1, [ozq (lB ka gone i) qb cb]⟩ : Sz).st.ids [(ka : Int) + 1]) = (taken == gone) := by
                have := lost_a hK taken gone
                rwa [if_pos g81] at this
              refine K.st (fun w h => rowO_nil (k := Kd.deed) 43 h) ?_
              refine K.region ?_
              refine KO.q rfl (q_move rfl) ?_
              refine KO.q rfl (q_as_req (q_build st_36 rfl (by repeat (first | exact Fill.nil | (apply Fill.cons; rfl; rfl; rfl) | exact SetN.nil | apply SetN.cons | exact SetAt.here | apply SetAt.there))) (by rfl)) ?_
              refine KO.q rfl (q_move rfl) ?_
              refine KO.q rfl (q_add rfl rfl (by first | omega | (simp; omega)) (by first | omega | (simp; omega))) ?_
              refine KO.q rfl (q_as_msg (q_build st_39 rfl (by repeat (first | exact Fill.nil | (apply Fill.cons; rfl; rfl; rfl) | exact SetN.nil | apply SetN.cons | exact SetAt.here | apply SetAt.there))) (by rfl)) ?_
              refine KO.q rfl (q_build st_41 rfl (by repeat (first | exact Fill.nil | (apply Fill.cons; rfl; rfl; rfl) | exact SetN.nil | apply SetN.cons | exact SetAt.here | apply SetAt.there))) ?_
              refine KO.q rfl (q_deed (dDeq ka) (q_build st_43 rfl (by repeat (first | exact Fill.nil | (apply Fill.cons; rfl; rfl; rfl) | exact SetN.nil | apply SetN.cons | exact SetAt.here | apply SetAt.there))) rfl) ?_
              refine KO.loud rfl (l_slice1 sz_46_1 rfl rfl ⟨rfl, rfl, rfl⟩) ?_
              rintro _ _ ⟨b89, rfl, rfl⟩
              refine KO.loud rfl (l_append Kd.deed (ys := [dDeq ka]) se_46 Tryz.underlying46 ⟨_, ze_43, rfl⟩ (by decide) rfl rfl (by repeat (first | exact Pick.here | apply Pick.there)) isP (by repeat (first | exact List.Mem.head _ | apply List.Mem.tail)) rfl rfl (by show (2 * (0 + 1) + 768) * _ ≤ _; decide)) ?_
              rintro _ _ ⟨pd, cd, rfl, rfl⟩
              refine KO.q rfl (q_assign rfl) ?_
              refine KO.done ?_
              refine K.st (fun w h => rowO_freeze (e := 43) (cap := cd) (k := Kd.deed) (p := pd) (xs := [dDeq ka]) (h.pick (by repeat (first | exact Pick.here | apply Pick.there)))) ?_
              refine K.seq ?_
              refine K.region ?_
              refine KO.q rfl (q_as_sz (l_ := [ozq (lA i) qa ca]) (q_loadN ck_24 rfl rfl (by first | (apply cells_pv; (repeat (first | exact List.Mem.head _ | apply List.Mem.tail))) | (apply cells_fv; (repeat (first | exact List.Mem.head _ | apply List.Mem.tail))))) rfl) ?_
              refine KO.q rfl (q_as_sz (l_ := [ozq (lB ka gone i) qb cb]) (q_loadN ck_24 rfl rfl (by first | (apply cells_pv; (repeat (first | exact List.Mem.head _ | apply List.Mem.tail))) | (apply cells_fv; (repeat (first | exact List.Mem.head _ | apply List.Mem.tail))))) rfl) ?_
              refine KO.q rfl (q_move rfl) ?_
              refine KO.loud rfl (l_slice1 sz_57_1 rfl rfl ⟨rfl, rfl, rfl⟩) ?_
              rintro _ _ ⟨b94, rfl, rfl⟩
              refine KO.st (fun w h => pv_sls [⟨pd, cd, [dDeq ka]⟩] rfl h) ?_
              refine KO.st (fun w h => nestSl_cons (k := Kd.deed) (l := []) ⟨pd, cd, [dDeq ka]⟩ (by repeat (first | exact List.Mem.head _ | apply List.Mem.tail)) (by repeat (first | exact List.Mem.head _ | apply List.Mem.tail)) h) ?_
              refine KO.loud rfl (OpL.callD rfl (h := mo_Kept (⟨100, some ⟨b37, 0, none⟩, 1, [ozq (lA i) qa ca]⟩ : Sz) (⟨100, some ⟨b40, 0, none⟩, 1, [ozq (lB ka gone i) qb cb]⟩ : Sz) (some ⟨b94, 0, none⟩) 1 [⟨pd, cd, [dDeq ka]⟩] (Nat.le_of_ble_eq_true rfl) (ozq_le (by rw [lA_len]; omega)) (Nat.le_of_ble_eq_true rfl) (ozq_le (by have := lB_len ka gone i; omega)) (by show 1 ≤ 1000; decide) (by show 1 + 0 ≤ 1000; decide) (forall1 (P := fun x : Sl Deed => ∀ d ∈ x.l, d.err = 0 ∧ d.req.kind = 12) (forall1 ⟨rfl, rfl⟩)))) ?_
              rintro _ _ ⟨_, ⟨rfl, rfl⟩, rfl⟩
              rw [show takes [⟨pd, cd, [dDeq ka]⟩] = [(ka : Int) + 1] from rfl, hk1]
              refine KO.q rfl (q_move rfl) ?_
              refine KO.q rfl (q_move rfl) ?_
              refine KO.q rfl (q_beq Tryz.underlying4 rfl rfl) ?_
              refine KO.q rfl (q_is (q_beq Tryz.underlying4 rfl rfl) (congrArg Value.bool (show ((taken == gone) == (taken == gone)) = true by simp))) ?_
              refine KO.q rfl (q_move rfl) ?_
              refine KO.q rfl (q_as_sz (l_ := [ozq (lA i) qa ca]) (q_loadN ck_24 rfl rfl (by first | (apply cells_pv; (repeat (first | exact List.Mem.head _ | apply List.Mem.tail))) | (apply cells_fv; (repeat (first | exact List.Mem.head _ | apply List.Mem.tail))))) rfl) ?_
              refine KO.q rfl (q_as_sz (l_ := [ozq (lA i) qa ca]) (q_loadN ck_24 rfl rfl (by first | (apply cells_pv; (repeat (first | exact List.Mem.head _ | apply List.Mem.tail))) | (apply cells_fv; (repeat (first | exact List.Mem.head _ | apply List.Mem.tail))))) rfl) ?_
              refine KO.loud rfl (OpL.callD rfl (h := mo_Kept (⟨100, some ⟨b37, 0, none⟩, 1, [ozq (lA i) qa ca]⟩ : Sz) (⟨100, some ⟨b37, 0, none⟩, 1, [ozq (lA i) qa ca]⟩ : Sz) none 0 [] (Nat.le_of_ble_eq_true rfl) (ozq_le (by rw [lA_len]; omega)) (Nat.le_of_ble_eq_true rfl) (ozq_le (by rw [lA_len]; omega)) (by decide) (by decide) (fun x hx => by cases hx))) ?_
              rintro _ _ ⟨_, ⟨rfl, rfl⟩, rfl⟩
              rw [hk2]
              refine KO.q rfl (q_pickT rfl rfl) ?_
              refine KO.q rfl (q_move rfl) ?_
              refine KO.q rfl (q_as_sz (l_ := [ozq (lB ka gone i) qb cb]) (q_loadN ck_24 rfl rfl (by first | (apply cells_pv; (repeat (first | exact List.Mem.head _ | apply List.Mem.tail))) | (apply cells_fv; (repeat (first | exact List.Mem.head _ | apply List.Mem.tail))))) rfl) ?_
              refine KO.q rfl (q_as_sz (l_ := [ozq (lA i) qa ca]) (q_loadN ck_24 rfl rfl (by first | (apply cells_pv; (repeat (first | exact List.Mem.head _ | apply List.Mem.tail))) | (apply cells_fv; (repeat (first | exact List.Mem.head _ | apply List.Mem.tail))))) rfl) ?_
              refine KO.loud rfl (OpL.callD rfl (h := mo_Kept (⟨100, some ⟨b40, 0, none⟩, 1, [ozq (lB ka gone i) qb cb]⟩ : Sz) (⟨100, some ⟨b37, 0, none⟩, 1, [ozq (lA i) qa ca]⟩ : Sz) none 0 [] (Nat.le_of_ble_eq_true rfl) (ozq_le (by have := lB_len ka gone i; omega)) (Nat.le_of_ble_eq_true rfl) (ozq_le (by rw [lA_len]; omega)) (by decide) (by decide) (fun x hx => by cases hx))) ?_
              rintro _ _ ⟨_, ⟨rfl, rfl⟩, rfl⟩
              rw [hk3]
              refine KO.q rfl (q_move rfl) ?_
              refine KO.q rfl (q_not rfl) ?_
              refine KO.q rfl (q_is (q_beq Tryz.underlying4 rfl rfl) (congrArg Value.bool (show ((!gone) == (!gone)) = true by simp))) ?_
              refine KO.q rfl (q_pickT rfl rfl) ?_
              refine KO.q rfl (q_assign rfl) ?_
              refine KO.done ?_
              refine K.ret (fn := Tryz.f4) Tryz.func4 (fun a w hk hs => res1 Tryz.results4 hk rfl) (fun w hs => ?_)
              exact ⟨_, [], rfl, ⟨rfl, rfl⟩, hs.fitD⟩
            · have hk1 : decide (keptP (⟨100, some ⟨b37, 0, none⟩, 1, [ozq (lA i) qa ca]⟩ : Sz).st.ids (⟨100, some ⟨b40, 0, none⟩, 1, [ozq (lB ka gone i) qb cb]⟩ : Sz).st.ids []) = (taken == gone) := by
                have := lost_a hK taken gone
                rwa [if_neg (by simpa using g81)] at this
              refine K.st (fun w h => rowF_nilA (k := Kd.deed) h) ?_
              refine K.skip <| K.seq ?_
              refine K.region ?_
              refine KO.q rfl (q_as_sz (l_ := [ozq (lA i) qa ca]) (q_loadN ck_24 rfl rfl (by first | (apply cells_pv; (repeat (first | exact List.Mem.head _ | apply List.Mem.tail))) | (apply cells_fv; (repeat (first | exact List.Mem.head _ | apply List.Mem.tail))))) rfl) ?_
              refine KO.q rfl (q_as_sz (l_ := [ozq (lB ka gone i) qb cb]) (q_loadN ck_24 rfl rfl (by first | (apply cells_pv; (repeat (first | exact List.Mem.head _ | apply List.Mem.tail))) | (apply cells_fv; (repeat (first | exact List.Mem.head _ | apply List.Mem.tail))))) rfl) ?_
              refine KO.q rfl (q_move rfl) ?_
              refine KO.loud rfl (l_slice1 sz_57_1 rfl rfl ⟨rfl, rfl, rfl⟩) ?_
              rintro _ _ ⟨b94, rfl, rfl⟩
              refine KO.st (fun w h => pv_sls [⟨none, 0, []⟩] rfl h) ?_
              refine KO.st (fun w h => nestSl_cons (k := Kd.deed) (l := []) ⟨none, 0, []⟩ (by repeat (first | exact List.Mem.head _ | apply List.Mem.tail)) (by repeat (first | exact List.Mem.head _ | apply List.Mem.tail)) h) ?_
              refine KO.loud rfl (OpL.callD rfl (h := mo_Kept (⟨100, some ⟨b37, 0, none⟩, 1, [ozq (lA i) qa ca]⟩ : Sz) (⟨100, some ⟨b40, 0, none⟩, 1, [ozq (lB ka gone i) qb cb]⟩ : Sz) (some ⟨b94, 0, none⟩) 1 [⟨none, 0, []⟩] (Nat.le_of_ble_eq_true rfl) (ozq_le (by rw [lA_len]; omega)) (Nat.le_of_ble_eq_true rfl) (ozq_le (by have := lB_len ka gone i; omega)) (by show 1 ≤ 1000; decide) (by show 0 + 0 ≤ 1000; decide) (forall1 (P := fun x : Sl Deed => ∀ d ∈ x.l, d.err = 0 ∧ d.req.kind = 12) (fun d hd => by cases hd)))) ?_
              rintro _ _ ⟨_, ⟨rfl, rfl⟩, rfl⟩
              rw [show takes [⟨none, 0, []⟩] = [] from rfl, hk1]
              refine KO.q rfl (q_move rfl) ?_
              refine KO.q rfl (q_move rfl) ?_
              refine KO.q rfl (q_beq Tryz.underlying4 rfl rfl) ?_
              refine KO.q rfl (q_is (q_beq Tryz.underlying4 rfl rfl) (congrArg Value.bool (show ((taken == gone) == (taken == gone)) = true by simp))) ?_
              refine KO.q rfl (q_move rfl) ?_
              refine KO.q rfl (q_as_sz (l_ := [ozq (lA i) qa ca]) (q_loadN ck_24 rfl rfl (by first | (apply cells_pv; (repeat (first | exact List.Mem.head _ | apply List.Mem.tail))) | (apply cells_fv; (repeat (first | exact List.Mem.head _ | apply List.Mem.tail))))) rfl) ?_
              refine KO.q rfl (q_as_sz (l_ := [ozq (lA i) qa ca]) (q_loadN ck_24 rfl rfl (by first | (apply cells_pv; (repeat (first | exact List.Mem.head _ | apply List.Mem.tail))) | (apply cells_fv; (repeat (first | exact List.Mem.head _ | apply List.Mem.tail))))) rfl) ?_
              refine KO.loud rfl (OpL.callD rfl (h := mo_Kept (⟨100, some ⟨b37, 0, none⟩, 1, [ozq (lA i) qa ca]⟩ : Sz) (⟨100, some ⟨b37, 0, none⟩, 1, [ozq (lA i) qa ca]⟩ : Sz) none 0 [] (Nat.le_of_ble_eq_true rfl) (ozq_le (by rw [lA_len]; omega)) (Nat.le_of_ble_eq_true rfl) (ozq_le (by rw [lA_len]; omega)) (by decide) (by decide) (fun x hx => by cases hx))) ?_
              rintro _ _ ⟨_, ⟨rfl, rfl⟩, rfl⟩
              rw [hk2]
              refine KO.q rfl (q_pickT rfl rfl) ?_
              refine KO.q rfl (q_move rfl) ?_
              refine KO.q rfl (q_as_sz (l_ := [ozq (lB ka gone i) qb cb]) (q_loadN ck_24 rfl rfl (by first | (apply cells_pv; (repeat (first | exact List.Mem.head _ | apply List.Mem.tail))) | (apply cells_fv; (repeat (first | exact List.Mem.head _ | apply List.Mem.tail))))) rfl) ?_
              refine KO.q rfl (q_as_sz (l_ := [ozq (lA i) qa ca]) (q_loadN ck_24 rfl rfl (by first | (apply cells_pv; (repeat (first | exact List.Mem.head _ | apply List.Mem.tail))) | (apply cells_fv; (repeat (first | exact List.Mem.head _ | apply List.Mem.tail))))) rfl) ?_
              refine KO.loud rfl (OpL.callD rfl (h := mo_Kept (⟨100, some ⟨b40, 0, none⟩, 1, [ozq (lB ka gone i) qb cb]⟩ : Sz) (⟨100, some ⟨b37, 0, none⟩, 1, [ozq (lA i) qa ca]⟩ : Sz) none 0 [] (Nat.le_of_ble_eq_true rfl) (ozq_le (by have := lB_len ka gone i; omega)) (Nat.le_of_ble_eq_true rfl) (ozq_le (by rw [lA_len]; omega)) (by decide) (by decide) (fun x hx => by cases hx))) ?_
              rintro _ _ ⟨_, ⟨rfl, rfl⟩, rfl⟩
              rw [hk3]
              refine KO.q rfl (q_move rfl) ?_
              refine KO.q rfl (q_not rfl) ?_
              refine KO.q rfl (q_is (q_beq Tryz.underlying4 rfl rfl) (congrArg Value.bool (show ((!gone) == (!gone)) = true by simp))) ?_
              refine KO.q rfl (q_pickT rfl rfl) ?_
              refine KO.q rfl (q_assign rfl) ?_
              refine KO.done ?_
              refine K.ret (fn := Tryz.f4) Tryz.func4 (fun a w hk hs => res1 Tryz.results4 hk rfl) (fun w hs => ?_)
              exact ⟨_, [], rfl, ⟨rfl, rfl⟩, hs.fitD⟩
end Go.Proofs.YthnmoiilaaoooaaGreat.L
