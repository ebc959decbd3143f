/- The laws LocksMany, LocksNames, walked. -/
import Derived.Test.YtfpkeanimkgpaaaJ6
import Derived.Test.YtfpkeanimkgpaaaPJ
namespace Go.Proofs.Ytfpkeanimkgpaaa.L
open Go Go.Proofs
attribute [local irreducible] pv fv pt fz RowF RowO rowP old pure_ elA
set_option maxRecDepth 100000
set_option linter.unusedSimpArgs false
set_option linter.unusedVariables false

theorem many_ask (i : Nat) : askT (mT (min i 200)) ((min i 200 : Nat) : Int) i nmA 1 = (if i < 200 then 0 else 10, mT (min (i + 1) 200), ((min (i + 1) 200 : Nat) : Int)) := by
  by_cases h : i < 200
  · rw [Nat.min_eq_left (by omega), Nat.min_eq_left (by omega), if_pos h, many_more h]
    rfl
  · rw [Nat.min_eq_right (by omega), Nat.min_eq_right (by omega), if_neg h]
    exact many_full (by omega)
theorem many_ask2 {N : Nat} (hN : 190 ≤ N) {who : Int} (h0 : 0 ≤ who) (h1 : who < N) : ∃ k, k.line = [] ∧ k.size ≤ 1000 ∧ askT (mT (min N 200)) ((min N 200 : Nat) : Int) who nmA 2 = (if who < 200 then 0 else 10, [⟨nmA, k⟩], ((min N 200 : Nat) : Int)) := by
  by_cases h : who < 200
  · refine ⟨(mK (min N 200)).grant ⟨who, 2⟩, ?_, ?_, ?_⟩
    · rw [Lk.grant_same]; rfl
    · refine Nat.le_trans (Lk.grant_size _ _) ?_
      show (isH (min N 200)).length + 0 + 1 ≤ _
      rw [isH_len]; omega
    · rw [if_pos h, many_up (by omega) h0 (by omega)]
  · refine ⟨mK 200, rfl, ?_, ?_⟩
    · show (isH 200).length + 0 ≤ _
      rw [isH_len]; omega
    · rw [Nat.min_eq_right (by omega), if_neg h]
      exact many_no (by omega)
theorem tok_one {nm : Nm} {k : Lk} {c : Int} (hk : k.size ≤ 1000) (hc : 0 ≤ c ∧ c ≤ 1000) : TOk [⟨nm, k⟩] c := ⟨List.pairwise_singleton _ _, (fun e he => by rw [List.mem_singleton.1 he]; show k.size ≤ _; omega), by show 1 ≤ _; omega, by omega⟩
theorem tok_mT {n : Nat} (h : n ≤ 210) (c : Int) (hc : 0 ≤ c ∧ c ≤ 1000) : TOk (mT n) c := by
  obtain ⟨h1, h2, h3, h4, h5⟩ := mT_ok h c hc
  exact ⟨h1, h2, h3, h4, h5⟩
set_option maxHeartbeats 3200000 in
theorem law_LocksMany (n who : Int) : Fn Try.prog 3 [.int .i64 n, .int .i64 who].toArray [] (fun r post => r = .bool true ∧ post = []) := by
  refine Fn.enter (N := 100) Try.func3 rfl Try.ntmps3 (by kernel_rfl) rfl (fun ρ L => ?_)
  refine K.seq ?_
  refine K.region ?_
  refine KO.q rfl (q_assign rfl) ?_
  refine KO.done ?_
  refine K.seq ?_
  refine K.region ?_
  refine KO.loud rfl (OpL.callD rfl (h := l13_alive)) ?_
  rintro _ _ ⟨_, ⟨rfl, rfl⟩, rfl⟩
  refine KO.q rfl (q_assign rfl) ?_
  refine KO.done ?_
  refine K.seq <| K.seq ?_
  refine K.region ?_
  refine KO.q rfl (q_move rfl) ?_
  refine KO.q rfl (q_not rfl) ?_
  refine KO.q rfl (q_move rfl) ?_
  refine KO.q rfl (q_move rfl) ?_
  refine KO.q rfl (q_lt rfl rfl) ?_
  refine KO.q rfl (q_pickF rfl rfl) ?_
  refine KO.q rfl (q_move rfl) ?_
  refine KO.dsplit 18 rfl (fun g18 => ?_) (fun g18 => ?_)
  · refine KO.skip rfl ?_
    refine KO.skip rfl ?_
    refine KO.q rfl (q_pickT rfl rfl) ?_
    refine KO.q rfl (q_move rfl) ?_
    refine KO.skip rfl ?_
    refine KO.skip rfl ?_
    refine KO.q rfl (q_pickT rfl rfl) ?_
    refine KO.q rfl (q_move rfl) ?_
    refine KO.skip rfl ?_
    refine KO.skip rfl ?_
    refine KO.skip rfl ?_
    refine KO.q rfl (q_pickT rfl rfl) ?_
    refine KO.done ?_
    refine K.yes rfl ?_
    refine K.seq ?_
    refine K.region ?_
    refine KO.q rfl (q_move rfl) ?_
    refine KO.q rfl (q_assign rfl) ?_
    refine KO.done ?_
    refine K.ret (fn := Try.f3) Try.func3 (fun a w hk hs => res1 Try.results3 hk rfl) (fun w hs => ?_)
    exact ⟨_, [], rfl, ⟨rfl, rfl⟩, hs.fitD⟩
  · refine KO.q rfl (q_move rfl) ?_
    refine KO.q rfl (q_gt rfl rfl) ?_
    refine KO.q rfl (q_pickF rfl rfl) ?_
    refine KO.q rfl (q_move rfl) ?_
    refine KO.dsplit 22 rfl (fun g22 => ?_) (fun g22 => ?_)
    · refine KO.skip rfl ?_
      refine KO.skip rfl ?_
      refine KO.q rfl (q_pickT rfl rfl) ?_
      refine KO.q rfl (q_move rfl) ?_
      refine KO.skip rfl ?_
      refine KO.skip rfl ?_
      refine KO.skip rfl ?_
      refine KO.q rfl (q_pickT rfl rfl) ?_
      refine KO.done ?_
      refine K.yes rfl ?_
      refine K.seq ?_
      refine K.region ?_
      refine KO.q rfl (q_move rfl) ?_
      refine KO.q rfl (q_assign rfl) ?_
      refine KO.done ?_
      refine K.ret (fn := Try.f3) Try.func3 (fun a w hk hs => res1 Try.results3 hk rfl) (fun w hs => ?_)
      exact ⟨_, [], rfl, ⟨rfl, rfl⟩, hs.fitD⟩
    · refine KO.q rfl (q_move rfl) ?_
      refine KO.q rfl (q_lt rfl rfl) ?_
      refine KO.q rfl (q_pickF rfl rfl) ?_
      refine KO.q rfl (q_move rfl) ?_
      refine KO.dsplit 26 rfl (fun g26 => ?_) (fun g26 => ?_)
      · refine KO.skip rfl ?_
        refine KO.skip rfl ?_
        refine KO.skip rfl ?_
        refine KO.q rfl (q_pickT rfl rfl) ?_
        refine KO.done ?_
        refine K.yes rfl ?_
        refine K.seq ?_
        refine K.region ?_
        refine KO.q rfl (q_move rfl) ?_
        refine KO.q rfl (q_assign rfl) ?_
        refine KO.done ?_
        refine K.ret (fn := Try.f3) Try.func3 (fun a w hk hs => res1 Try.results3 hk rfl) (fun w hs => ?_)
        exact ⟨_, [], rfl, ⟨rfl, rfl⟩, hs.fitD⟩
      · refine KO.q rfl (q_move rfl) ?_
        refine KO.q rfl (q_move rfl) ?_
        refine KO.q rfl (q_ge rfl rfl) ?_
        refine KO.q rfl (q_pickF rfl rfl) ?_
        refine KO.done ?_
        refine K.dcond (s := 30) rfl (fun g30 => ?_) (fun g30 => ?_)
        · refine K.seq ?_
          refine K.region ?_
          refine KO.q rfl (q_move rfl) ?_
          refine KO.q rfl (q_assign rfl) ?_
          refine KO.done ?_
          refine K.ret (fn := Try.f3) Try.func3 (fun a w hk hs => res1 Try.results3 hk rfl) (fun w hs => ?_)
          exact ⟨_, [], rfl, ⟨rfl, rfl⟩, hs.fitD⟩
        · refine K.skip <| K.seq ?_
          obtain ⟨N, rfl⟩ : ∃ N : Nat, n = N := ⟨n.toNat, by omega⟩
          rename_i L
          refine K.region ?_
          refine KO.loud rfl (OpL.callG rfl (by repeat (first | exact Give.nil | (apply Give.perI; (repeat (first | exact List.Mem.head _ | apply List.Mem.tail))) | (apply Give.own; (repeat (first | exact Pick.here | apply Pick.there))))) tb_New) ?_
          rintro _ _ ⟨_, ⟨t, rfl, rfl⟩, rfl⟩
          refine KO.q rfl (q_assign rfl) ?_
          refine KO.done ?_
          refine K.seq <| K.seq ?_
          refine K.region ?_
          refine KO.q rfl (q_move rfl) ?_
          refine KO.q rfl (q_pnil Try.underlying23 rfl rfl) ?_
          refine KO.done ?_
          refine K.no rfl ?_
          refine K.skip <| K.seq <| K.seq ?_
          refine K.region ?_
          refine KO.q rfl (q_assign rfl) ?_
          refine KO.done ?_
          refine K.block ?_
          refine K.rounds2 (ι := { s : Nat // s ≤ N }) (fun s => [(7, .int .i64 s.1), (0, .int .i64 N), (1, .int .i64 who), (6, .pointer (some ⟨t, 0, none⟩))]) (fun s => [TbX t ((min s.1 200 : Nat) : Int) (mT (min s.1 200))] ++ L) (fun s => N - s.1) ⟨0, Nat.zero_le _⟩ (by repeat (first | exact Env.sub_nil _ | refine Env.sub_cons rfl ?_)) (fun w h => h.fitD) (fun s ih => ?_)
          obtain ⟨i, hi⟩ := s
          dsimp only at hi ⊢
          refine K.seq <| K.seq ?_
          refine K.region ?_
          refine KO.q rfl (q_move rfl) ?_
          refine KO.q rfl (q_move rfl) ?_
          refine KO.q rfl (q_lt rfl rfl) ?_
          refine KO.done ?_
          refine K.dcond (s := 37) rfl (fun g37 => ?_) (fun g37 => ?_)
          · refine K.skip <| K.seq <| K.block <| K.seq ?_
            refine K.region ?_
            refine KO.q rfl (q_move rfl) ?_
            refine KO.q rfl (q_move rfl) ?_
            refine KO.q rfl (q_as_nm (q_build st_28 rfl (by repeat (first | exact Fill.nil | (apply Fill.cons; rfl; rfl; rfl) | exact SetN.nil | apply SetN.cons | exact SetAt.here | apply SetAt.there))) (by rfl)) ?_
            refine KO.loud rfl (OpL.callD rfl (h := tb_AskX t ((min i 200 : Nat) : Int) (mT (min i 200)) i nmA 1 (tok_mT (by omega) _ (by omega)))) ?_
            rintro _ _ ⟨_, ⟨rfl, rfl⟩, rfl⟩
            rw [many_ask]
            refine KO.q rfl (q_assign rfl) ?_
            refine KO.done ?_
            refine K.seq ?_
            refine K.region ?_
            refine KO.q rfl (q_move rfl) ?_
            refine KO.loud rfl (OpL.callD rfl (h := l13_num _)) ?_
            rintro _ _ ⟨_, ⟨rfl, rfl⟩, rfl⟩
            refine KO.q rfl (q_eq rfl rfl) ?_
            refine KO.q rfl (q_move rfl) ?_
            refine KO.q rfl (q_lt rfl rfl) ?_
            refine KO.q rfl (q_bneF Try.underlying4 rfl rfl (by
              by_cases h : i < 200
              · rw [if_pos h, decide_eq_true (show ((i : Int) < 200) by omega)]; rfl
              · rw [if_neg h, decide_eq_false (show ¬ ((i : Int) < 200) by omega)]; rfl)) ?_
            refine KO.q rfl (q_move rfl) ?_
            refine KO.q rfl (q_move rfl) ?_
            refine KO.q rfl (q_ge rfl rfl) ?_
            refine KO.q rfl (q_move rfl) ?_
            refine KO.dsplit 53 rfl (fun g53 => ?_) (fun g53 => ?_)
            · refine KO.q rfl (q_move rfl) ?_
              refine KO.loud rfl (OpL.callD rfl (h := l13_num _)) ?_
              rintro _ _ ⟨_, ⟨rfl, rfl⟩, rfl⟩
              refine KO.q rfl (q_neF rfl rfl (by rw [if_neg (by omega)])) ?_
              refine KO.q rfl (q_pickT rfl rfl) ?_
              refine KO.q rfl (q_pickF rfl rfl) ?_
              refine KO.done ?_
              refine K.no rfl ?_
              refine K.skip <| K.inBlock ?_
              refine K.region ?_
              refine KO.q rfl (q_move rfl) ?_
              refine KO.q rfl (q_add rfl rfl (by first | omega | (simp; omega)) (by first | omega | (simp; omega))) ?_
              refine KO.q rfl (q_assign rfl) ?_
              refine KO.done ?_
              exact K.weak (by repeat (first | exact Env.sub_nil _ | refine Env.sub_cons rfl ?_)) (fun w h => h.fitD) (ih ⟨i + 1, by omega⟩ (by show N - (i + 1) < N - i; omega))
            · refine KO.skip rfl ?_
              refine KO.skip rfl ?_
              refine KO.skip rfl ?_
              refine KO.q rfl (q_pickF rfl rfl) ?_
              refine KO.q rfl (q_pickF rfl rfl) ?_
              refine KO.done ?_
              refine K.no rfl ?_
              refine K.skip <| K.inBlock ?_
              refine K.region ?_
              refine KO.q rfl (q_move rfl) ?_
              refine KO.q rfl (q_add rfl rfl (by first | omega | (simp; omega)) (by first | omega | (simp; omega))) ?_
              refine KO.q rfl (q_assign rfl) ?_
              refine KO.done ?_
              exact K.weak (by repeat (first | exact Env.sub_nil _ | refine Env.sub_cons rfl ?_)) (fun w h => h.fitD) (ih ⟨i + 1, by omega⟩ (by show N - (i + 1) < N - i; omega))
          · obtain rfl : i = N := by omega
            clear ih
            obtain ⟨k, hk, hks, hak⟩ := many_ask2 (N := i) (by omega) (who := who) (by omega) (by omega)
            refine K.exit rfl ?_
            refine K.seq ?_
            refine K.region ?_
            refine KO.q rfl (q_move rfl) ?_
            refine KO.q rfl (q_move rfl) ?_
            refine KO.q rfl (q_as_nm (q_build st_28 rfl (by repeat (first | exact Fill.nil | (apply Fill.cons; rfl; rfl; rfl) | exact SetN.nil | apply SetN.cons | exact SetAt.here | apply SetAt.there))) (by rfl)) ?_
            refine KO.loud rfl (OpL.callD rfl (h := tb_AskX t ((min i 200 : Nat) : Int) (mT (min i 200)) who nmA 2 (tok_mT (by omega) _ (by omega)))) ?_
            rintro _ _ ⟨_, ⟨rfl, rfl⟩, rfl⟩
            rw [hak]
            refine KO.q rfl (q_assign rfl) ?_
            refine KO.done ?_
            refine K.seq ?_
            refine K.region ?_
            refine KO.q rfl (q_move rfl) ?_
            refine KO.q rfl (q_move rfl) ?_
            refine KO.q rfl (q_as_nm (q_build st_28 rfl (by repeat (first | exact Fill.nil | (apply Fill.cons; rfl; rfl; rfl) | exact SetN.nil | apply SetN.cons | exact SetAt.here | apply SetAt.there))) (by rfl)) ?_
            refine KO.loud rfl (OpL.callD rfl (h := tb_AskX t ((min i 200 : Nat) : Int) [⟨nmA, k⟩] who nmAB 5 (tok_one hks (by omega)))) ?_
            rintro _ _ ⟨_, ⟨rfl, rfl⟩, rfl⟩
            rw [many_row hk]
            refine KO.q rfl (q_assign rfl) ?_
            refine KO.done ?_
            refine K.seq <| K.seq ?_
            refine K.region ?_
            refine KO.q rfl (q_move rfl) ?_
            refine KO.q rfl (q_lt rfl rfl) ?_
            refine KO.done ?_
            refine K.dcond (s := 68) rfl (fun g68 => ?_) (fun g68 => ?_)
            · rw [if_neg (by omega)]
              refine K.seq ?_
              refine K.region ?_
              refine KO.q rfl (q_move rfl) ?_
              refine KO.loud rfl (OpL.callD rfl (h := l13_num _)) ?_
              rintro _ _ ⟨_, ⟨rfl, rfl⟩, rfl⟩
              refine KO.q rfl (q_eqT rfl rfl (by rw [if_pos (by omega)])) ?_
              refine KO.q rfl (q_move rfl) ?_
              refine KO.q rfl (q_move rfl) ?_
              refine KO.loud rfl (OpL.callD rfl (h := l13_num _)) ?_
              rintro _ _ ⟨_, ⟨rfl, rfl⟩, rfl⟩
              refine KO.q rfl (q_eqT rfl rfl (rfl)) ?_
              refine KO.q rfl (q_pickT rfl rfl) ?_
              refine KO.q rfl (q_move rfl) ?_
              refine KO.q rfl (q_move rfl) ?_
              refine KO.loud rfl (OpL.callD rfl (h := tb_CountX t _ _)) ?_
              rintro _ _ ⟨_, ⟨rfl, rfl⟩, rfl⟩
              refine KO.q rfl (q_move rfl) ?_
              refine KO.q rfl (q_add rfl rfl (by first | omega | (simp; omega)) (by first | omega | (simp; omega))) ?_
              refine KO.q rfl (q_eqT rfl rfl (by show ((min i 200 : Nat) : Int) + 1 = (i : Int) + 1; omega)) ?_
              refine KO.q rfl (q_pickT rfl rfl) ?_
              refine KO.q rfl (q_assign rfl) ?_
              refine KO.done ?_
              refine K.ret (fn := Try.f3) Try.func3 (fun a w hk hs => res1 Try.results3 hk rfl) (fun w hs => ?_)
              exact ⟨_, [], rfl, ⟨rfl, rfl⟩, hs.fitD⟩
            · rw [if_pos (by omega)]
              refine K.skip <| K.seq ?_
              refine K.region ?_
              refine KO.q rfl (q_move rfl) ?_
              refine KO.loud rfl (OpL.callD rfl (h := l13_num _)) ?_
              rintro _ _ ⟨_, ⟨rfl, rfl⟩, rfl⟩
              refine KO.q rfl (q_eq rfl rfl) ?_
              refine KO.q rfl (q_move rfl) ?_
              refine KO.q rfl (q_lt rfl rfl) ?_
              refine KO.q rfl (q_beqT Try.underlying4 rfl rfl (by
                by_cases h : who < 200
                · rw [if_pos h, decide_eq_true h]; rfl
                · rw [if_neg h, decide_eq_false h]; rfl)) ?_
              refine KO.q rfl (q_move rfl) ?_
              refine KO.q rfl (q_move rfl) ?_
              refine KO.loud rfl (OpL.callD rfl (h := l13_num _)) ?_
              rintro _ _ ⟨_, ⟨rfl, rfl⟩, rfl⟩
              refine KO.q rfl (q_eqT rfl rfl (rfl)) ?_
              refine KO.q rfl (q_pickT rfl rfl) ?_
              refine KO.q rfl (q_move rfl) ?_
              refine KO.q rfl (q_move rfl) ?_
              refine KO.loud rfl (OpL.callD rfl (h := tb_CountX t _ _)) ?_
              rintro _ _ ⟨_, ⟨rfl, rfl⟩, rfl⟩
              refine KO.q rfl (q_eqT rfl rfl (by show ((min i 200 : Nat) : Int) = 200; omega)) ?_
              refine KO.q rfl (q_pickT rfl rfl) ?_
              refine KO.q rfl (q_assign rfl) ?_
              refine KO.done ?_
              refine K.ret (fn := Try.f3) Try.func3 (fun a w hk hs => res1 Try.results3 hk rfl) (fun w hs => ?_)
              exact ⟨_, [], rfl, ⟨rfl, rfl⟩, hs.fitD⟩
theorem tok_nT {l : List Ent} {c : Int} (hs : SrtT l) (h : ∀ e ∈ l, ∃ m, e.k = nK m) (hl : l.length ≤ 10) (hc : 0 ≤ c ∧ c ≤ 1000) : TOk l c := ⟨hs, (fun e he => by obtain ⟨m, hm⟩ := h e he; rw [hm]; show 1 ≤ _; omega), by omega, by omega⟩
set_option maxHeartbeats 3200000 in
theorem law_LocksNames (a b c : ByteArray) (m : Int) : Fn Try.prog 7 [.string a, .string b, .string c, .int .i64 m].toArray [] (fun r post => r = .bool true ∧ post = []) := by
  refine Fn.enter (N := 99) Try.func7 rfl Try.ntmps7 (by kernel_rfl) rfl (fun ρ L => ?_)
  refine K.seq ?_
  refine K.region ?_
  refine KO.q rfl (q_assign rfl) ?_
  refine KO.done ?_
  refine K.seq ?_
  refine K.region ?_
  refine KO.loud rfl (OpL.callD rfl (h := l13_alive)) ?_
  rintro _ _ ⟨_, ⟨rfl, rfl⟩, rfl⟩
  refine KO.q rfl (q_assign rfl) ?_
  refine KO.done ?_
  refine K.seq <| K.seq ?_
  refine K.region ?_
  refine KO.q rfl (q_move rfl) ?_
  refine KO.q rfl (q_not rfl) ?_
  refine KO.q rfl (q_move rfl) ?_
  refine KO.q rfl (q_move rfl) ?_
  refine KO.q rfl (q_lenS Try.underlying9 rfl) ?_
  refine KO.q rfl (q_gt rfl rfl) ?_
  refine KO.q rfl (q_pickF rfl rfl) ?_
  refine KO.q rfl (q_move rfl) ?_
  refine KO.dsplit 20 rfl (fun g20 => ?_) (fun g20 => ?_)
  · refine KO.skip rfl ?_
    refine KO.skip rfl ?_
    refine KO.skip rfl ?_
    refine KO.q rfl (q_pickT rfl rfl) ?_
    refine KO.q rfl (q_move rfl) ?_
    refine KO.skip rfl ?_
    refine KO.skip rfl ?_
    refine KO.skip rfl ?_
    refine KO.q rfl (q_pickT rfl rfl) ?_
    refine KO.q rfl (q_move rfl) ?_
    refine KO.skip rfl ?_
    refine KO.skip rfl ?_
    refine KO.q rfl (q_pickT rfl rfl) ?_
    refine KO.q rfl (q_move rfl) ?_
    refine KO.skip rfl ?_
    refine KO.skip rfl ?_
    refine KO.q rfl (q_pickT rfl rfl) ?_
    refine KO.done ?_
    refine K.yes rfl ?_
    refine K.seq ?_
    refine K.region ?_
    refine KO.q rfl (q_move rfl) ?_
    refine KO.q rfl (q_assign rfl) ?_
    refine KO.done ?_
    refine K.ret (fn := Try.f7) Try.func7 (fun a w hk hs => res1 Try.results7 hk rfl) (fun w hs => ?_)
    exact ⟨_, [], rfl, ⟨rfl, rfl⟩, hs.fitD⟩
  · refine KO.q rfl (q_move rfl) ?_
    refine KO.q rfl (q_lenS Try.underlying9 rfl) ?_
    refine KO.q rfl (q_gt rfl rfl) ?_
    refine KO.q rfl (q_pickF rfl rfl) ?_
    refine KO.q rfl (q_move rfl) ?_
    refine KO.dsplit 25 rfl (fun g25 => ?_) (fun g25 => ?_)
    · refine KO.skip rfl ?_
      refine KO.skip rfl ?_
      refine KO.skip rfl ?_
      refine KO.q rfl (q_pickT rfl rfl) ?_
      refine KO.q rfl (q_move rfl) ?_
      refine KO.skip rfl ?_
      refine KO.skip rfl ?_
      refine KO.q rfl (q_pickT rfl rfl) ?_
      refine KO.q rfl (q_move rfl) ?_
      refine KO.skip rfl ?_
      refine KO.skip rfl ?_
      refine KO.q rfl (q_pickT rfl rfl) ?_
      refine KO.done ?_
      refine K.yes rfl ?_
      refine K.seq ?_
      refine K.region ?_
      refine KO.q rfl (q_move rfl) ?_
      refine KO.q rfl (q_assign rfl) ?_
      refine KO.done ?_
      refine K.ret (fn := Try.f7) Try.func7 (fun a w hk hs => res1 Try.results7 hk rfl) (fun w hs => ?_)
      exact ⟨_, [], rfl, ⟨rfl, rfl⟩, hs.fitD⟩
    · refine KO.q rfl (q_move rfl) ?_
      refine KO.q rfl (q_lenS Try.underlying9 rfl) ?_
      refine KO.q rfl (q_gt rfl rfl) ?_
      refine KO.q rfl (q_pickF rfl rfl) ?_
      refine KO.q rfl (q_move rfl) ?_
      refine KO.dsplit 30 rfl (fun g30 => ?_) (fun g30 => ?_)
      · refine KO.skip rfl ?_
        refine KO.skip rfl ?_
        refine KO.q rfl (q_pickT rfl rfl) ?_
        refine KO.q rfl (q_move rfl) ?_
        refine KO.skip rfl ?_
        refine KO.skip rfl ?_
        refine KO.q rfl (q_pickT rfl rfl) ?_
        refine KO.done ?_
        refine K.yes rfl ?_
        refine K.seq ?_
        refine K.region ?_
        refine KO.q rfl (q_move rfl) ?_
        refine KO.q rfl (q_assign rfl) ?_
        refine KO.done ?_
        refine K.ret (fn := Try.f7) Try.func7 (fun a w hk hs => res1 Try.results7 hk rfl) (fun w hs => ?_)
        exact ⟨_, [], rfl, ⟨rfl, rfl⟩, hs.fitD⟩
      · refine KO.q rfl (q_move rfl) ?_
        refine KO.q rfl (q_lt rfl rfl) ?_
        refine KO.q rfl (q_pickF rfl rfl) ?_
        refine KO.q rfl (q_move rfl) ?_
        refine KO.dsplit 34 rfl (fun g34 => ?_) (fun g34 => ?_)
        · refine KO.skip rfl ?_
          refine KO.skip rfl ?_
          refine KO.q rfl (q_pickT rfl rfl) ?_
          refine KO.done ?_
          refine K.yes rfl ?_
          refine K.seq ?_
          refine K.region ?_
          refine KO.q rfl (q_move rfl) ?_
          refine KO.q rfl (q_assign rfl) ?_
          refine KO.done ?_
          refine K.ret (fn := Try.f7) Try.func7 (fun a w hk hs => res1 Try.results7 hk rfl) (fun w hs => ?_)
          exact ⟨_, [], rfl, ⟨rfl, rfl⟩, hs.fitD⟩
        · refine KO.q rfl (q_move rfl) ?_
          refine KO.q rfl (q_gt rfl rfl) ?_
          refine KO.q rfl (q_pickF rfl rfl) ?_
          refine KO.done ?_
          refine K.dcond (s := 37) rfl (fun g37 => ?_) (fun g37 => ?_)
          · refine K.seq ?_
            refine K.region ?_
            refine KO.q rfl (q_move rfl) ?_
            refine KO.q rfl (q_assign rfl) ?_
            refine KO.done ?_
            refine K.ret (fn := Try.f7) Try.func7 (fun a w hk hs => res1 Try.results7 hk rfl) (fun w hs => ?_)
            exact ⟨_, [], rfl, ⟨rfl, rfl⟩, hs.fitD⟩
          · refine K.skip <| K.seq ?_
            refine K.region ?_
            refine KO.loud rfl (OpL.callG rfl (by repeat (first | exact Give.nil | (apply Give.perI; (repeat (first | exact List.Mem.head _ | apply List.Mem.tail))) | (apply Give.own; (repeat (first | exact Pick.here | apply Pick.there))))) tb_New) ?_
            rintro _ _ ⟨_, ⟨t, rfl, rfl⟩, rfl⟩
            have hm : 1 ≤ m ∧ m ≤ 5 := by omega
            have ht1 : TOk [⟨Nm.nil, nK m⟩] 1 := tok_nT (List.pairwise_singleton _ _) (fun e he => ⟨m, by rw [List.mem_singleton.1 he]⟩) (by show 1 ≤ 10; decide) (by decide)
            have ht2 : TOk [⟨Nm.nil, nK m⟩, ⟨nm1 a, nK m⟩] 2 := tok_nT (by unfold SrtT; simp [cmp01]) (fun e he => ⟨m, by simp at he; rcases he with rfl | rfl <;> rfl⟩) (by show 2 ≤ 10; decide) (by decide)
            have ht3 : TOk (nT a b m) 3 := tok_nT (by unfold SrtT nT; simp [cmp01, cmp02, cmp12]) (fun e he => by unfold nT at he; simp at he; rcases he with rfl | rfl | rfl; exact ⟨m, rfl⟩; exact ⟨m, rfl⟩; exact ⟨5, rfl⟩) (by show 3 ≤ 10; decide) (by decide)
            refine KO.q rfl (q_assign rfl) ?_
            refine KO.done ?_
            refine K.seq <| K.seq ?_
            refine K.region ?_
            refine KO.q rfl (q_move rfl) ?_
            refine KO.q rfl (q_pnil Try.underlying23 rfl rfl) ?_
            refine KO.done ?_
            refine K.no rfl ?_
            refine K.skip <| K.seq ?_
            refine K.region ?_
            refine KO.q rfl (q_move rfl) ?_
            refine KO.q rfl (q_move rfl) ?_
            refine KO.q rfl (q_move rfl) ?_
            refine KO.q rfl (q_as_nm (q_build st_28 rfl (by repeat (first | exact Fill.nil | (apply Fill.cons; rfl; rfl; rfl) | exact SetN.nil | apply SetN.cons | exact SetAt.here | apply SetAt.there))) (by rfl)) ?_
            refine KO.q rfl (q_move rfl) ?_
            refine KO.loud rfl (OpL.callD rfl (h := tb_AskX t 0 [] 1 ⟨0, a, b⟩ m tok_nil)) ?_
            rintro _ _ ⟨_, ⟨rfl, rfl⟩, rfl⟩
            rw [names1 hm]
            refine KO.done ?_
            refine K.seq ?_
            refine K.region ?_
            refine KO.q rfl (q_move rfl) ?_
            refine KO.q rfl (q_move rfl) ?_
            refine KO.q rfl (q_move rfl) ?_
            refine KO.q rfl (q_as_nm (q_build st_28 rfl (by repeat (first | exact Fill.nil | (apply Fill.cons; rfl; rfl; rfl) | exact SetN.nil | apply SetN.cons | exact SetAt.here | apply SetAt.there))) (by rfl)) ?_
            refine KO.q rfl (q_move rfl) ?_
            refine KO.loud rfl (OpL.callD rfl (h := tb_AskX t 1 [⟨Nm.nil, nK m⟩] 1 ⟨1, a, b⟩ m ht1)) ?_
            rintro _ _ ⟨_, ⟨rfl, rfl⟩, rfl⟩
            rw [names2 hm]
            refine KO.done ?_
            refine K.seq ?_
            refine K.region ?_
            refine KO.q rfl (q_move rfl) ?_
            refine KO.q rfl (q_move rfl) ?_
            refine KO.q rfl (q_move rfl) ?_
            refine KO.q rfl (q_as_nm (q_build st_28 rfl (by repeat (first | exact Fill.nil | (apply Fill.cons; rfl; rfl; rfl) | exact SetN.nil | apply SetN.cons | exact SetAt.here | apply SetAt.there))) (by rfl)) ?_
            refine KO.loud rfl (OpL.callD rfl (h := tb_AskX t 2 [⟨Nm.nil, nK m⟩, ⟨nm1 a, nK m⟩] 1 ⟨2, a, b⟩ 5 ht2)) ?_
            rintro _ _ ⟨_, ⟨rfl, rfl⟩, rfl⟩
            rw [names3]
            refine KO.done ?_
            refine K.seq <| K.seq ?_
            refine K.region ?_
            refine KO.q rfl (q_move rfl) ?_
            refine KO.q rfl (q_as_nm (q_build st_28 rfl (by repeat (first | exact Fill.nil | (apply Fill.cons; rfl; rfl; rfl) | exact SetN.nil | apply SetN.cons | exact SetAt.here | apply SetAt.there))) (by rfl)) ?_
            refine KO.loud rfl (OpL.callD rfl (h := tb_ModeX t 3 (nT a b m) 1 ⟨0, ⟨#[]⟩, ⟨#[]⟩⟩ ht3)) ?_
            rintro _ _ ⟨_, ⟨rfl, rfl⟩, rfl⟩
            rw [nT_mode0]
            refine KO.q rfl (q_move rfl) ?_
            refine KO.q rfl (q_neF rfl rfl (rfl)) ?_
            refine KO.q rfl (q_move rfl) ?_
            refine KO.q rfl (q_move rfl) ?_
            refine KO.q rfl (q_move rfl) ?_
            refine KO.q rfl (q_move rfl) ?_
            refine KO.q rfl (q_as_nm (q_build st_28 rfl (by repeat (first | exact Fill.nil | (apply Fill.cons; rfl; rfl; rfl) | exact SetN.nil | apply SetN.cons | exact SetAt.here | apply SetAt.there))) (by rfl)) ?_
            refine KO.loud rfl (OpL.callD rfl (h := tb_ModeX t 3 (nT a b m) 1 ⟨1, a, c⟩ ht3)) ?_
            rintro _ _ ⟨_, ⟨rfl, rfl⟩, rfl⟩
            rw [nT_mode1]
            refine KO.q rfl (q_move rfl) ?_
            refine KO.q rfl (q_neF rfl rfl (rfl)) ?_
            refine KO.q rfl (q_pickF rfl rfl) ?_
            refine KO.q rfl (q_move rfl) ?_
            refine KO.q rfl (q_move rfl) ?_
            refine KO.loud rfl (OpL.callD rfl (h := tb_CountX t 3 (nT a b m))) ?_
            rintro _ _ ⟨_, ⟨rfl, rfl⟩, rfl⟩
            refine KO.q rfl (q_neF rfl rfl (rfl)) ?_
            refine KO.q rfl (q_pickF rfl rfl) ?_
            refine KO.done ?_
            refine K.no rfl ?_
            refine K.skip <| K.seq ?_
            refine K.region ?_
            refine KO.q rfl (q_move rfl) ?_
            refine KO.q rfl (q_move rfl) ?_
            refine KO.q rfl (q_move rfl) ?_
            refine KO.q rfl (q_as_nm (q_build st_28 rfl (by repeat (first | exact Fill.nil | (apply Fill.cons; rfl; rfl; rfl) | exact SetN.nil | apply SetN.cons | exact SetAt.here | apply SetAt.there))) (by rfl)) ?_
            refine KO.loud rfl (OpL.callD rfl (h := tb_AskX t 3 (nT a b m) 2 ⟨2, a, c⟩ 5 ht3)) ?_
            rintro _ _ ⟨_, ⟨rfl, rfl⟩, rfl⟩
            rw [names4]
            refine KO.q rfl (q_assign rfl) ?_
            refine KO.done ?_
            refine K.seq ?_
            refine K.region ?_
            refine KO.q rfl (q_move rfl) ?_
            refine KO.loud rfl (OpL.callD rfl (h := l13_num _)) ?_
            rintro _ _ ⟨_, ⟨rfl, rfl⟩, rfl⟩
            refine KO.q rfl (q_eq rfl rfl) ?_
            refine KO.q rfl (q_move rfl) ?_
            refine KO.q rfl (q_move rfl) ?_
            refine KO.q rfl (q_sne rfl rfl) ?_
            refine KO.q rfl (q_beqT Try.underlying4 rfl rfl (by
              by_cases h : b = c
              · rw [if_pos h, decide_eq_false (show ¬ ¬ b = c from fun hn => hn h)]; rfl
              · rw [if_neg h, decide_eq_true (show ¬ b = c from h)]; rfl)) ?_
            refine KO.q rfl (q_move rfl) ?_
            refine KO.q rfl (q_move rfl) ?_
            refine KO.loud rfl (OpL.callD rfl (h := l13_num _)) ?_
            rintro _ _ ⟨_, ⟨rfl, rfl⟩, rfl⟩
            refine KO.q rfl (q_eq rfl rfl) ?_
            refine KO.q rfl (q_move rfl) ?_
            refine KO.q rfl (q_move rfl) ?_
            refine KO.q rfl (q_seq rfl rfl) ?_
            refine KO.q rfl (q_beqT Try.underlying4 rfl rfl (by
              by_cases h : b = c
              · rw [if_pos h, decide_eq_true h]; rfl
              · rw [if_neg h, decide_eq_false h]; rfl)) ?_
            refine KO.q rfl (q_pickT rfl rfl) ?_
            refine KO.q rfl (q_assign rfl) ?_
            refine KO.done ?_
            refine K.ret (fn := Try.f7) Try.func7 (fun a w hk hs => res1 Try.results7 hk rfl) (fun w hs => ?_)
            exact ⟨_, [], rfl, ⟨rfl, rfl⟩, hs.fitD⟩
end Go.Proofs.Ytfpkeanimkgpaaa.L
