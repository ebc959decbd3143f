/- Walks: the locks' table: where a name is, for which name somebody waits. -/
import Derived.Test.YtcpkcjabmookmaaGreatPN
namespace Go.Proofs.YtcpkcjabmookmaaGreat.L
open Go Go.Proofs
attribute [local irreducible] pv fv pt fz RowF RowO rowP old pure_ elA
set_option maxRecDepth 100000
set_option linter.unusedSimpArgs false
set_option linter.unusedVariables false

abbrev TbE (t : Nat) (n : Int) (q : Option Addr) (c : Nat) (es : List E) : List HP := [pv t 53 [.int .i64 n, .slice q es.length c], RowO Kd.e 63 q c es]
theorem tb_full (t : Nat) (n : Int) (s : Value) : Fn Tryz.prog 25 [.pointer (some ⟨t, 0, none⟩)].toArray [pv t 53 [.int .i64 n, s]] (fun r post => r = .bool (decide (200 ≤ n)) ∧ post = [pv t 53 [.int .i64 n, s]]) := by
  refine Fn.enter (N := 8) Tryz.func25 rfl Tryz.ntmps25 (by kernel_rfl) rfl (fun ρ L => ?_)
  refine K.seq ?_
  refine K.region ?_
  refine KO.q rfl (q_assign rfl) ?_
  refine KO.done ?_
  refine K.seq ?_
  refine K.region ?_
  refine KO.q rfl (q_move rfl) ?_
  refine KO.q rfl (q_nilCheck rfl) ?_
  refine KO.q rfl (q_field fo_50_0 rfl) ?_
  refine KO.q rfl (q_load1D ck_3 rfl) ?_
  refine KO.q rfl (q_ge rfl rfl) ?_
  refine KO.q rfl (q_assign rfl) ?_
  refine KO.done ?_
  refine K.ret (fn := Tryz.f25) Tryz.func25 (fun a w hk hs => res1 Tryz.results25 hk rfl) (fun w hs => ?_)
  exact ⟨_, [pv t 53 [.int .i64 n, s]], rfl, ⟨rfl, rfl⟩, hs.fitD⟩
theorem tb_moved (t : Nat) (n d : Int) (s : Value) (hn : -1000000000 ≤ n ∧ n ≤ 1000000000) (hd : -10 ≤ d ∧ d ≤ 10) : Fn Tryz.prog 27 [.pointer (some ⟨t, 0, none⟩), .int .i64 d].toArray [pv t 53 [.int .i64 n, s]] (fun r post => r = .tuple #[] ∧ post = [pv t 53 [.int .i64 (n + d), s]]) := by
  refine Fn.enter (N := 12) Tryz.func27 rfl Tryz.ntmps27 (by kernel_rfl) rfl (fun ρ L => ?_)
  refine K.region ?_
  refine KO.q rfl (q_move rfl) ?_
  refine KO.q rfl (q_nilCheck rfl) ?_
  refine KO.q rfl (q_field fo_50_0 rfl) ?_
  refine KO.q rfl (q_load1D ck_3 rfl) ?_
  refine KO.q rfl (q_move rfl) ?_
  refine KO.q rfl (q_add rfl rfl (by first | omega | (simp; omega)) (by first | omega | (simp; omega))) ?_
  refine KO.q rfl (q_nilCheck rfl) ?_
  refine KO.q rfl (q_field fo_50_0 rfl) ?_
  refine KO.loudN rfl (l_store1 ck_3 rfl rfl rfl (by repeat (first | exact Pick.here | apply Pick.there)) (by repeat (first | exact SetAt.here | apply SetAt.there))) ?_
  rintro _ _ ⟨rfl, rfl⟩
  refine KO.done ?_
  refine K.fin (fn := Tryz.f27) Tryz.func27 (fun a w hk hs => res0 Tryz.results27) (fun w hs => ?_)
  exact ⟨_, [pv t 53 [.int .i64 (n + d), s]], rfl, ⟨rfl, rfl⟩, hs.fitD⟩
theorem tb_find1 (e : E) (n : Nm) : Fn Tryz.prog 50 [.agg e.cells.toArray, .agg n.cells.toArray].toArray [] (fun r post => r = .int .i64 (cmpN e.name n) ∧ post = []) := by
  refine Fn.enter (N := 9) Tryz.func50 rfl Tryz.ntmps50 (by kernel_rfl) rfl (fun ρ L => ?_)
  refine K.seq ?_
  refine K.region ?_
  refine KO.loud rfl (l_box rfl rfl) ?_
  rintro _ _ ⟨b2, rfl, rfl⟩
  refine KO.loud rfl (l_box rfl rfl) ?_
  rintro _ _ ⟨b3, rfl, rfl⟩
  refine KO.q rfl (q_assign rfl) ?_
  refine KO.done ?_
  refine K.seq ?_
  refine K.region ?_
  refine KO.q rfl (q_field fo_63_0 rfl) ?_
  refine KO.q rfl (q_ldPS sub_e_name nm_sz ck_31 rfl (by repeat (first | exact List.Mem.head _ | apply List.Mem.tail))) ?_
  refine KO.q rfl (q_loadN ck_31 rfl rfl (by first | (apply cells_pv; (repeat (first | exact List.Mem.head _ | apply List.Mem.tail))) | (apply cells_fv; (repeat (first | exact List.Mem.head _ | apply List.Mem.tail))))) ?_
  refine KO.loud rfl (OpL.callD rfl (h := nm_compare _ _)) ?_
  rintro _ _ ⟨_, ⟨rfl, rfl⟩, rfl⟩
  refine KO.q rfl (q_assign rfl) ?_
  refine KO.done ?_
  refine K.ret (fn := Tryz.f50) Tryz.func50 (fun a w hk hs => res1 Tryz.results50 hk rfl) (fun w hs => ?_)
  exact ⟨_, [], rfl, ⟨rfl, rfl⟩, hs.fitD⟩
set_option maxHeartbeats 1600000 in
theorem tb_search (A : HP) (q : Option Addr) (c : Nat) (es : List E) (n : Nm) (hA : IsRow A Kd.e q es) (hs0 : Srt es) (hl : es.length ≤ 1000000000) : Fn Tryz.prog 49 [.slice q es.length c, .agg n.cells.toArray, .func (.func 50) #[] #[]].toArray [A] (fun r post => r = .tuple #[.int .i64 (lbN es n), .bool (fndN es n)] ∧ post = [A]) := by
  refine Fn.enter (N := 49) Tryz.func49 rfl Tryz.ntmps49 (by kernel_rfl) rfl (fun ρ L => ?_)
  refine K.seq ?_
  refine K.region ?_
  refine KO.loud rfl (l_box rfl rfl) ?_
  rintro _ _ ⟨b4, rfl, rfl⟩
  refine KO.q rfl (q_assign rfl) ?_
  refine KO.q rfl (q_assign rfl) ?_
  refine KO.done ?_
  refine K.seq ?_
  refine K.region ?_
  refine KO.q rfl (q_move rfl) ?_
  refine KO.q rfl (q_len Tryz.underlying51 rfl) ?_
  refine KO.q rfl (q_assign rfl) ?_
  refine KO.done ?_
  refine K.seq ?_
  refine K.region ?_
  refine KO.q rfl (q_move rfl) ?_
  refine KO.q rfl (q_assign rfl) ?_
  refine KO.q rfl (q_assign rfl) ?_
  refine KO.done ?_
  refine K.seq <| K.block ?_
  refine K.rounds2 (ι := { s : Nat × Nat // s.1 ≤ s.2 ∧ s.2 ≤ es.length ∧ (es.take s.1).all (fun e => decide (cmpN e.name n < 0)) = true ∧ ∀ j x, s.2 ≤ j → es[j]? = some x → ¬ cmpN x.name n < 0 }) (fun s => [(9, .int .i64 s.1.1), (10, .int .i64 s.1.2), (8, .int .i64 es.length), (0, .slice q es.length c), (2, .func (.func 50) #[] #[]), (4, .pointer (some ⟨b4, 0, none⟩))]) (fun s => [A, pv b4 31 n.cells] ++ L) (fun s => s.1.2 - s.1.1) ⟨(0, es.length), Nat.zero_le _, Nat.le_refl _, rfl, fun j x hj hx => by
    have hj : es.length ≤ j := hj
    rw [List.getElem?_eq_none hj] at hx; cases hx⟩ (by repeat (first | exact Env.sub_nil _ | refine Env.sub_cons rfl ?_)) (fun w h => h.fitD) (fun s ih => ?_)
  obtain ⟨⟨i, j⟩, hij, hj, hlo, hhi⟩ := s
  dsimp only at hij hj hlo hhi ⊢
  refine K.seq <| K.seq ?_
  refine K.region ?_
  refine KO.q rfl (q_move rfl) ?_
  refine KO.q rfl (q_move rfl) ?_
  refine KO.q rfl (q_lt rfl rfl) ?_
  refine KO.done ?_
  refine K.dcond (s := 17) rfl (fun g17 => ?_) (fun g17 => ?_)
  · obtain ⟨m, hm⟩ : ∃ m, m = (i + j) / 2 := ⟨_, rfl⟩
    obtain ⟨e, he⟩ : ∃ e, es[m]? = some e := ⟨_, List.getElem?_eq_getElem (by omega)⟩
    refine K.skip <| K.block <| K.seq ?_
    refine K.region ?_
    refine KO.q rfl (q_move rfl) ?_
    refine KO.q rfl (q_move rfl) ?_
    refine KO.q rfl (q_add rfl rfl (by first | omega | (simp; omega)) (by first | omega | (simp; omega))) ?_
    refine KO.q rfl (q_conv Tryz.underlying114 (by rw [Tryz.underlying3]; rfl) rfl (by first | rfl | exact wrap_i64 (by omega) (by omega) | exact wrap_u64 (by omega) (by omega) | exact wrap_u8 (by omega) (by omega))) ?_
    refine KO.q rfl (q_is (q_shr rfl rfl (by decide)) (show _ = Value.int .u64 (m : Int) from congrArg (Value.int .u64) (by
      show ((i : Int) + (j : Int)).fdiv 2 = (m : Int)
      rw [Int.fdiv_eq_ediv_of_nonneg _ (by decide)]
      omega))) ?_
    refine KO.q rfl (q_conv Tryz.underlying3 (by rw [Tryz.underlying114]; rfl) rfl (by first | rfl | exact wrap_i64 (by omega) (by omega) | exact wrap_u64 (by omega) (by omega) | exact wrap_u8 (by omega) (by omega))) ?_
    refine KO.q rfl (q_assign rfl) ?_
    refine KO.done ?_
    refine K.seq ?_
    refine K.drawS [A, pv b4 31 n.cells] (fun _ h => h.subD) mixed ?_
    refine D.q 0 rfl (by kernel_rfl) (by kernel_rfl) (q_move rfl) (fun _ h => h.subD) ?_
    refine D.q 1 rfl (by kernel_rfl) (by kernel_rfl) (q_move rfl) (fun _ h => h.subD) ?_
    refine D.q 2 rfl (by kernel_rfl) (by kernel_rfl) (q_move rfl) (fun _ h => h.subD) ?_
    refine D.q 3 rfl (by kernel_rfl) (by kernel_rfl) (q_ix (xs := es) m se_51 rfl rfl rfl hA (by repeat (first | exact List.Mem.head _ | apply List.Mem.tail)) rfl (by omega)) (fun _ h => h.subD) ?_
    refine D.q 4 rfl (by kernel_rfl) (by kernel_rfl) (q_ldEN (xs := es) ck_63 rfl hA (by repeat (first | exact List.Mem.head _ | apply List.Mem.tail)) he) (fun _ h => h.subD) ?_
    refine D.q 5 rfl (by kernel_rfl) (by kernel_rfl) (q_loadN ck_31 rfl rfl (by first | (apply cells_pv; (repeat (first | exact List.Mem.head _ | apply List.Mem.tail))) | (apply cells_fv; (repeat (first | exact List.Mem.head _ | apply List.Mem.tail))))) (fun _ h => h.subD) ?_
    refine D.all (rs := [6]) (by kernel_rfl) rfl (DAll.cons rfl (by kernel_rfl) (OpL.callCG (first := []) (captured := []) rfl rfl (by repeat (first | exact Give.nil | (apply Give.perI; (repeat (first | exact List.Mem.head _ | apply List.Mem.tail))) | (apply Give.own; (repeat (first | exact Pick.here | apply Pick.there))))) (tb_find1 e n)) (.inr (by rintro _ _ ⟨_, ⟨rfl, rfl⟩, rfl⟩ w h; exact h.subD)) rfl ?_ DAll.nil)
    rintro _ _ ⟨_, ⟨rfl, rfl⟩, rfl⟩
    refine D.q 7 rfl (by kernel_rfl) (by kernel_rfl) (q_lt rfl rfl) (fun _ h => h.subD) ?_
    refine D.done (by kernel_rfl) ?_
    refine K.dcond (s := 31) rfl (fun g31 => ?_) (fun g31 => ?_)
    · refine K.region ?_
      refine KO.q rfl (q_move rfl) ?_
      refine KO.q rfl (q_add rfl rfl (by first | omega | (simp; omega)) (by first | omega | (simp; omega))) ?_
      refine KO.q rfl (q_assign rfl) ?_
      refine KO.done ?_
      refine K.inBlock ?_
      exact K.weak (by repeat (first | exact Env.sub_nil _ | refine Env.sub_cons rfl ?_)) (fun w h => h.fitD) (ih ⟨(m + 1, j), by show m + 1 ≤ j; omega, hj, lb_low hs0 he g31, hhi⟩ (by show j - (m + 1) < j - i; omega))
    · refine K.region ?_
      refine KO.q rfl (q_move rfl) ?_
      refine KO.q rfl (q_assign rfl) ?_
      refine KO.done ?_
      refine K.inBlock ?_
      exact K.weak (by repeat (first | exact Env.sub_nil _ | refine Env.sub_cons rfl ?_)) (fun w h => h.fitD) (ih ⟨(i, m), by show i ≤ m; omega, by show m ≤ _; omega, hlo, lb_high hs0 he g31⟩ (by show m - i < j - i; omega))
  · obtain rfl : i = j := by omega
    have hlb : lbN es n = i := tw_eq hlo hj (fun e he => decide_eq_false (hhi i e (Nat.le_refl _) he))
    clear ih
    refine K.exit rfl ?_
    refine K.seq ?_
    refine K.drawS [A, pv b4 31 n.cells] (fun _ h => h.subD) mixed ?_
    refine D.q 0 rfl (by kernel_rfl) (by kernel_rfl) (q_move rfl) (fun _ h => h.subD) ?_
    refine D.q 1 rfl (by kernel_rfl) (by kernel_rfl) (q_move rfl) (fun _ h => h.subD) ?_
    refine D.q 2 rfl (by kernel_rfl) (by kernel_rfl) (q_move rfl) (fun _ h => h.subD) ?_
    refine D.q 3 rfl (by kernel_rfl) (by kernel_rfl) (q_lt rfl rfl) (fun _ h => h.subD) ?_
    refine D.q 4 rfl (by kernel_rfl) (by kernel_rfl) (q_move rfl) (fun _ h => h.subD) ?_
    refine D.dsplit 39 rfl (fun g39 => ?_) (fun g39 => ?_)
    · obtain ⟨e, he⟩ : ∃ e, es[i]? = some e := ⟨_, List.getElem?_eq_getElem (by omega)⟩
      have hfn : fndN es n = decide (cmpN e.name n = 0) := by unfold fndN; rw [hlb, he]; rfl
      refine D.q 5 rfl (by kernel_rfl) (by kernel_rfl) (q_move rfl) (fun _ h => h.subD) ?_
      refine D.q 6 rfl (by kernel_rfl) (by kernel_rfl) (q_move rfl) (fun _ h => h.subD) ?_
      refine D.q 7 rfl (by kernel_rfl) (by kernel_rfl) (q_move rfl) (fun _ h => h.subD) ?_
      refine D.q 8 rfl (by kernel_rfl) (by kernel_rfl) (q_ix (xs := es) i se_51 rfl rfl rfl hA (by repeat (first | exact List.Mem.head _ | apply List.Mem.tail)) rfl (by omega)) (fun _ h => h.subD) ?_
      refine D.q 9 rfl (by kernel_rfl) (by kernel_rfl) (q_ldEN (xs := es) ck_63 rfl hA (by repeat (first | exact List.Mem.head _ | apply List.Mem.tail)) he) (fun _ h => h.subD) ?_
      refine D.q 10 rfl (by kernel_rfl) (by kernel_rfl) (q_loadN ck_31 rfl rfl (by first | (apply cells_pv; (repeat (first | exact List.Mem.head _ | apply List.Mem.tail))) | (apply cells_fv; (repeat (first | exact List.Mem.head _ | apply List.Mem.tail))))) (fun _ h => h.subD) ?_
      refine D.all (rs := [11]) (by kernel_rfl) rfl (DAll.cons rfl (by kernel_rfl) (OpL.callCG (first := []) (captured := []) rfl rfl (by repeat (first | exact Give.nil | (apply Give.perI; (repeat (first | exact List.Mem.head _ | apply List.Mem.tail))) | (apply Give.own; (repeat (first | exact Pick.here | apply Pick.there))))) (tb_find1 e n)) (.inr (by rintro _ _ ⟨_, ⟨rfl, rfl⟩, rfl⟩ w h; exact h.subD)) rfl ?_ DAll.nil)
      rintro _ _ ⟨_, ⟨rfl, rfl⟩, rfl⟩
      refine D.q 12 rfl (by kernel_rfl) (by kernel_rfl) (q_eq rfl rfl) (fun _ h => h.subD) ?_
      refine D.q 13 rfl (by kernel_rfl) (by kernel_rfl) (q_pickT rfl rfl) (fun _ h => h.subD) ?_
      refine D.q 14 rfl (by kernel_rfl) (by kernel_rfl) (q_assign rfl) (fun _ h => h.subD) ?_
      refine D.q 15 rfl (by kernel_rfl) (by kernel_rfl) (q_assign rfl) (fun _ h => h.subD) ?_
      refine D.done (by kernel_rfl) ?_
      refine K.ret (fn := Tryz.f49) Tryz.func49 (fun a w hk hs => res2 Tryz.results49 hk rfl rfl) (fun w hs => ?_)
      rw [hlb, hfn]
      exact ⟨_, [A], rfl, ⟨rfl, rfl⟩, hs.fitD⟩
    · have hfn : fndN es n = false := by unfold fndN; rw [hlb, List.getElem?_eq_none (by omega)]; rfl
      refine D.skip 5 rfl (by kernel_rfl) (by kernel_rfl) (fun _ h => h.subD) ?_
      refine D.skip 6 rfl (by kernel_rfl) (by kernel_rfl) (fun _ h => h.subD) ?_
      refine D.skip 7 rfl (by kernel_rfl) (by kernel_rfl) (fun _ h => h.subD) ?_
      refine D.skip 8 rfl (by kernel_rfl) (by kernel_rfl) (fun _ h => h.subD) ?_
      refine D.skip 9 rfl (by kernel_rfl) (by kernel_rfl) (fun _ h => h.subD) ?_
      refine D.skip 10 rfl (by kernel_rfl) (by kernel_rfl) (fun _ h => h.subD) ?_
      refine D.skip 11 rfl (by kernel_rfl) (by kernel_rfl) (fun _ h => h.subD) ?_
      refine D.skip 12 rfl (by kernel_rfl) (by kernel_rfl) (fun _ h => h.subD) ?_
      refine D.q 13 rfl (by kernel_rfl) (by kernel_rfl) (q_pickF rfl rfl) (fun _ h => h.subD) ?_
      refine D.q 14 rfl (by kernel_rfl) (by kernel_rfl) (q_assign rfl) (fun _ h => h.subD) ?_
      refine D.q 15 rfl (by kernel_rfl) (by kernel_rfl) (q_assign rfl) (fun _ h => h.subD) ?_
      refine D.done (by kernel_rfl) ?_
      refine K.ret (fn := Tryz.f49) Tryz.func49 (fun a w hk hs => res2 Tryz.results49 hk rfl rfl) (fun w hs => ?_)
      rw [hlb, hfn]
      exact ⟨_, [A], rfl, ⟨rfl, rfl⟩, hs.fitD⟩
--%call (*poste/locks.Table).find := tb_find _ _ _ _ _ _ (by assumption) (by assumption)
theorem tb_find (t : Nat) (n : Int) (q : Option Addr) (c : Nat) (es : List E) (nm : Nm) (hs0 : Srt es) (hl : es.length ≤ 1000000000) : Fn Tryz.prog 23 [.pointer (some ⟨t, 0, none⟩), .agg nm.cells.toArray].toArray (TbE t n q c es) (fun r post => r = .tuple #[.int .i64 (lbN es nm), .bool (fndN es nm)] ∧ post = TbE t n q c es) := by
  refine Fn.enter (N := 14) Tryz.func23 rfl Tryz.ntmps23 (by kernel_rfl) rfl (fun ρ L => ?_)
  refine K.seq ?_
  refine K.region ?_
  refine KO.loud rfl (l_box rfl rfl) ?_
  rintro _ _ ⟨b3, rfl, rfl⟩
  refine KO.q rfl (q_assign rfl) ?_
  refine KO.q rfl (q_assign rfl) ?_
  refine KO.done ?_
  refine K.seq ?_
  refine K.drawS [pv t 53 [.int .i64 n, .slice q es.length c], pv b3 31 nm.cells] (fun _ h => h.subD) mixed ?_
  refine D.q 0 rfl (by kernel_rfl) (by kernel_rfl) (q_move rfl) (fun _ h => h.subD) ?_
  refine D.q 1 rfl (by kernel_rfl) (by kernel_rfl) (q_nilCheck rfl) (fun _ h => h.subD) ?_
  refine D.q 2 rfl (by kernel_rfl) (by kernel_rfl) (q_field fo_53_1 rfl) (fun _ h => h.subD) ?_
  refine D.q 3 rfl (by kernel_rfl) (by kernel_rfl) (q_load1D ck_51 rfl) (fun _ h => h.subD) ?_
  refine D.q 4 rfl (by kernel_rfl) (by kernel_rfl) (q_loadN ck_31 rfl rfl (by first | (apply cells_pv; (repeat (first | exact List.Mem.head _ | apply List.Mem.tail))) | (apply cells_fv; (repeat (first | exact List.Mem.head _ | apply List.Mem.tail))))) (fun _ h => h.subD) ?_
  refine D.all (rs := [5]) (by kernel_rfl) rfl (DAll.cons rfl (by kernel_rfl) (OpL.callD rfl (h := tb_search (RowO Kd.e 63 q c es) q c es nm isO hs0 hl)) (.inr (by rintro _ _ ⟨_, ⟨rfl, rfl⟩, rfl⟩ w h; exact h.subD)) rfl ?_ DAll.nil)
  rintro _ _ ⟨_, ⟨rfl, rfl⟩, rfl⟩
  refine D.q 6 rfl (by kernel_rfl) (by kernel_rfl) (q_extract rfl rfl) (fun _ h => h.subD) ?_
  refine D.q 7 rfl (by kernel_rfl) (by kernel_rfl) (q_extract rfl rfl) (fun _ h => h.subD) ?_
  refine D.q 8 rfl (by kernel_rfl) (by kernel_rfl) (q_assign rfl) (fun _ h => h.subD) ?_
  refine D.q 9 rfl (by kernel_rfl) (by kernel_rfl) (q_assign rfl) (fun _ h => h.subD) ?_
  refine D.done (by kernel_rfl) ?_
  refine K.ret (fn := Tryz.f23) Tryz.func23 (fun a w hk hs => res2 Tryz.results23 hk rfl rfl) (fun w hs => ?_)
  exact ⟨_, TbE t n q c es, rfl, ⟨rfl, rfl⟩, hs.fitD⟩
end Go.Proofs.YtcpkcjabmookmaaGreat.L
