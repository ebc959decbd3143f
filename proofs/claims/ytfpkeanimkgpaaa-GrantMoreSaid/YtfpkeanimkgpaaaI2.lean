/- The law GrantMore, walked. -/
import Derived.Test.YtfpkeanimkgpaaaI1
import Derived.Test.YtfpkeanimkgpaaaPM
namespace Go.Proofs.Ytfpkeanimkgpaaa.L
open Go Go.Proofs
attribute [local irreducible] pv fv pt fz RowF RowO rowP old pure_ elA
set_option maxRecDepth 100000
set_option linter.unusedSimpArgs false
set_option linter.unusedVariables false

set_option maxHeartbeats 3200000 in
theorem law_GrantMore (n m : Int) : Fn Try.prog 11 [.int .i64 n, .int .i64 m].toArray [] (fun r post => r = .bool true ∧ post = []) := by
  refine Fn.enter (N := 129) Try.func11 rfl Try.ntmps11 (by kernel_rfl) rfl (fun ρ L => ?_)
  refine K.seq ?_
  refine K.region ?_
  refine KO.q rfl (q_assign rfl) ?_
  refine KO.done ?_
  refine K.seq ?_
  refine K.region ?_
  refine KO.loud rfl (OpL.callD rfl (h := g_alive)) ?_
  rintro _ _ ⟨_, ⟨rfl, rfl⟩, rfl⟩
  refine KO.q rfl (q_assign rfl) ?_
  refine KO.done ?_
  refine K.seq <| K.seq ?_
  refine K.region ?_
  refine KO.q rfl (q_move rfl) ?_
  refine KO.q rfl (q_not rfl) ?_
  refine KO.q rfl (q_move rfl) ?_
  refine KO.q rfl (q_move rfl) ?_
  refine KO.q rfl (q_lt rfl rfl) ?_
  refine KO.q rfl (q_pickF rfl rfl) ?_
  refine KO.q rfl (q_move rfl) ?_
  refine KO.dsplit 20 rfl (fun g20 => ?_) (fun g20 => ?_)
  · refine KO.skip rfl ?_
    refine KO.skip rfl ?_
    refine KO.q rfl (q_pickT rfl rfl) ?_
    refine KO.q rfl (q_move rfl) ?_
    refine KO.skip rfl ?_
    refine KO.skip rfl ?_
    refine KO.q rfl (q_pickT rfl rfl) ?_
    refine KO.q rfl (q_move rfl) ?_
    refine KO.skip rfl ?_
    refine KO.skip rfl ?_
    refine KO.q rfl (q_pickT rfl rfl) ?_
    refine KO.done ?_
    refine K.yes rfl ?_
    refine K.seq ?_
    refine K.region ?_
    refine KO.q rfl (q_move rfl) ?_
    refine KO.q rfl (q_assign rfl) ?_
    refine KO.done ?_
    refine K.ret (fn := Try.f11) Try.func11 (fun a w hk hs => res1 Try.results11 hk rfl) (fun w hs => ?_)
    exact ⟨_, [], rfl, ⟨rfl, rfl⟩, hs.fitD⟩
  · refine KO.q rfl (q_move rfl) ?_
    refine KO.q rfl (q_gt rfl rfl) ?_
    refine KO.q rfl (q_pickF rfl rfl) ?_
    refine KO.q rfl (q_move rfl) ?_
    refine KO.dsplit 24 rfl (fun g24 => ?_) (fun g24 => ?_)
    · refine KO.skip rfl ?_
      refine KO.skip rfl ?_
      refine KO.q rfl (q_pickT rfl rfl) ?_
      refine KO.q rfl (q_move rfl) ?_
      refine KO.skip rfl ?_
      refine KO.skip rfl ?_
      refine KO.q rfl (q_pickT rfl rfl) ?_
      refine KO.done ?_
      refine K.yes rfl ?_
      refine K.seq ?_
      refine K.region ?_
      refine KO.q rfl (q_move rfl) ?_
      refine KO.q rfl (q_assign rfl) ?_
      refine KO.done ?_
      refine K.ret (fn := Try.f11) Try.func11 (fun a w hk hs => res1 Try.results11 hk rfl) (fun w hs => ?_)
      exact ⟨_, [], rfl, ⟨rfl, rfl⟩, hs.fitD⟩
    · refine KO.q rfl (q_move rfl) ?_
      refine KO.q rfl (q_lt rfl rfl) ?_
      refine KO.q rfl (q_pickF rfl rfl) ?_
      refine KO.q rfl (q_move rfl) ?_
      refine KO.dsplit 28 rfl (fun g28 => ?_) (fun g28 => ?_)
      · refine KO.skip rfl ?_
        refine KO.skip rfl ?_
        refine KO.q rfl (q_pickT rfl rfl) ?_
        refine KO.done ?_
        refine K.yes rfl ?_
        refine K.seq ?_
        refine K.region ?_
        refine KO.q rfl (q_move rfl) ?_
        refine KO.q rfl (q_assign rfl) ?_
        refine KO.done ?_
        refine K.ret (fn := Try.f11) Try.func11 (fun a w hk hs => res1 Try.results11 hk rfl) (fun w hs => ?_)
        exact ⟨_, [], rfl, ⟨rfl, rfl⟩, hs.fitD⟩
      · refine KO.q rfl (q_move rfl) ?_
        refine KO.q rfl (q_gt rfl rfl) ?_
        refine KO.q rfl (q_pickF rfl rfl) ?_
        refine KO.done ?_
        refine K.dcond (s := 31) rfl (fun g31 => ?_) (fun g31 => ?_)
        · refine K.seq ?_
          refine K.region ?_
          refine KO.q rfl (q_move rfl) ?_
          refine KO.q rfl (q_assign rfl) ?_
          refine KO.done ?_
          refine K.ret (fn := Try.f11) Try.func11 (fun a w hk hs => res1 Try.results11 hk rfl) (fun w hs => ?_)
          exact ⟨_, [], rfl, ⟨rfl, rfl⟩, hs.fitD⟩
        · refine K.skip <| K.seq ?_
          obtain ⟨N, rfl⟩ : ∃ N : Nat, n = N := ⟨n.toNat, by omega⟩
          obtain ⟨M, rfl⟩ : ∃ M : Nat, m = M := ⟨m.toNat, by omega⟩
          rename_i L
          refine K.region ?_
          refine KO.q rfl (q_build st_48 rfl (by repeat (first | exact Fill.nil | (apply Fill.cons; rfl; rfl; rfl) | exact SetN.nil | apply SetN.cons | exact SetAt.here | apply SetAt.there))) ?_
          refine KO.loud rfl (l_box rfl rfl) ?_
          rintro _ _ ⟨b34, rfl, rfl⟩
          refine KO.q rfl (q_assign rfl) ?_
          refine KO.done ?_
          refine K.st (fun w h => lkX_new h) ?_
          refine K.seq <| K.seq ?_
          refine K.region ?_
          refine KO.q rfl (q_assign rfl) ?_
          refine KO.done ?_
          refine K.block ?_
          refine K.rounds2 (ι := { s : Nat // s ≤ N }) (fun s => [(7, .int .i64 s.1), (0, .int .i64 N), (1, .int .i64 M), (6, .pointer (some ⟨b34, 0, none⟩))]) (fun s => [LkX b34 ⟨rdF 0 s.1, []⟩] ++ L) (fun s => N - s.1) ⟨0, Nat.zero_le _⟩ (by repeat (first | exact Env.sub_nil _ | refine Env.sub_cons rfl ?_)) (fun w h => h.fitD) (fun s ih => ?_)
          obtain ⟨i, hi⟩ := s
          dsimp only at hi ⊢
          have hsz : (Lk.mk (rdF 0 i) []).size ≤ 1000000 := by
            show (rdF 0 i).length + 0 ≤ _
            rw [rdF_len]; omega
          refine K.seq <| K.seq ?_
          refine K.region ?_
          refine KO.q rfl (q_move rfl) ?_
          refine KO.q rfl (q_move rfl) ?_
          refine KO.q rfl (q_lt rfl rfl) ?_
          refine KO.done ?_
          refine K.dcond (s := 37) rfl (fun g37 => ?_) (fun g37 => ?_)
          · refine K.skip <| K.seq <| K.block <| K.seq ?_
            refine K.region ?_
            refine KO.q rfl (q_move rfl) ?_
            refine KO.q rfl (q_move rfl) ?_
            refine KO.loud rfl (OpL.callD rfl (h := lk_AskX b34 ⟨rdF 0 i, []⟩ i 3 hsz)) ?_
            rintro _ _ ⟨_, ⟨rfl, rfl⟩, rfl⟩
            rw [more_read]
            refine KO.q rfl (q_not rfl) ?_
            refine KO.done ?_
            refine K.no rfl ?_
            refine K.skip <| K.inBlock ?_
            refine K.region ?_
            refine KO.q rfl (q_move rfl) ?_
            refine KO.q rfl (q_add rfl rfl (by first | omega | (simp; omega)) (by first | omega | (simp; omega))) ?_
            refine KO.q rfl (q_assign rfl) ?_
            refine KO.done ?_
            exact K.weak (by repeat (first | exact Env.sub_nil _ | refine Env.sub_cons rfl ?_)) (fun w h => h.fitD) (ih ⟨i + 1, by omega⟩ (by show N - (i + 1) < N - i; omega))
          · obtain rfl : i = N := by omega
            clear ih
            refine K.exit rfl ?_
            refine K.seq <| K.seq ?_
            refine K.region ?_
            refine KO.q rfl (q_assign rfl) ?_
            refine KO.done ?_
            refine K.block ?_
            refine K.rounds2 (ι := { s : Nat // s ≤ M }) (fun s => [(8, .int .i64 s.1), (0, .int .i64 i), (1, .int .i64 M), (6, .pointer (some ⟨b34, 0, none⟩))]) (fun s => [LkX b34 ⟨rdF 0 i, wrF 0 s.1⟩] ++ L) (fun s => M - s.1) ⟨0, Nat.zero_le _⟩ (by repeat (first | exact Env.sub_nil _ | refine Env.sub_cons rfl ?_)) (fun w h => h.fitD) (fun s ih => ?_)
            obtain ⟨j, hj⟩ := s
            dsimp only at hj ⊢
            have hsz2 : (Lk.mk (rdF 0 i) (wrF 0 j)).size ≤ 1000000 := by
              show (rdF 0 i).length + (wrF 0 j).length ≤ _
              rw [rdF_len, wrF_len]; omega
            refine K.seq <| K.seq ?_
            refine K.region ?_
            refine KO.q rfl (q_move rfl) ?_
            refine KO.q rfl (q_move rfl) ?_
            refine KO.q rfl (q_lt rfl rfl) ?_
            refine KO.done ?_
            refine K.dcond (s := 46) rfl (fun g46 => ?_) (fun g46 => ?_)
            · refine K.skip <| K.seq <| K.block <| K.seq ?_
              refine K.region ?_
              refine KO.q rfl (q_move rfl) ?_
              refine KO.q rfl (q_move rfl) ?_
              refine KO.q rfl (q_add rfl rfl (by first | omega | (simp; omega)) (by first | omega | (simp; omega))) ?_
              refine KO.loud rfl (OpL.callD rfl (h := lk_AskX b34 ⟨rdF 0 i, wrF 0 j⟩ (100 + (j : Int)) 5 hsz2)) ?_
              rintro _ _ ⟨_, ⟨rfl, rfl⟩, rfl⟩
              rw [more_write (by omega) (by omega)]
              refine KO.done ?_
              refine K.no rfl ?_
              refine K.skip <| K.inBlock ?_
              refine K.region ?_
              refine KO.q rfl (q_move rfl) ?_
              refine KO.q rfl (q_add rfl rfl (by first | omega | (simp; omega)) (by first | omega | (simp; omega))) ?_
              refine KO.q rfl (q_assign rfl) ?_
              refine KO.done ?_
              exact K.weak (by repeat (first | exact Env.sub_nil _ | refine Env.sub_cons rfl ?_)) (fun w h => h.fitD) (ih ⟨j + 1, by omega⟩ (by show M - (j + 1) < M - j; omega))
            · obtain rfl : j = M := by omega
              clear ih
              refine K.exit rfl ?_
              refine K.seq <| K.seq ?_
              refine K.region ?_
              refine KO.q rfl (q_move rfl) ?_
              refine KO.loud rfl (OpL.callD rfl (h := lk_AskX b34 ⟨rdF 0 i, wrF 0 j⟩ 0 5 hsz2)) ?_
              rintro _ _ ⟨_, ⟨rfl, rfl⟩, rfl⟩
              rw [more_up (by omega) (by omega)]
              refine KO.q rfl (q_move rfl) ?_
              refine KO.q rfl (q_eq rfl rfl) ?_
              refine KO.q rfl (q_bneF Try.underlying4 rfl rfl (decide_eq_decide.2 (by omega))) ?_
              refine KO.done ?_
              refine K.no rfl ?_
              refine K.skip <| K.seq <| K.seq ?_
              refine K.region ?_
              refine KO.q rfl (q_assign rfl) ?_
              refine KO.done ?_
              refine K.block ?_
              refine K.rounds2 (ι := { s : Nat // 1 ≤ s ∧ s ≤ i }) (fun s => [(9, .int .i64 s.1), (0, .int .i64 i), (1, .int .i64 j), (6, .pointer (some ⟨b34, 0, none⟩))]) (fun s => [LkX b34 (moreK s.1 i j)] ++ L) (fun s => i - s.1) ⟨1, Nat.le_refl _, by omega⟩ (by repeat (first | exact Env.sub_nil _ | refine Env.sub_cons rfl ?_)) (fun w h => h.fitD) (fun s ih => ?_)
              obtain ⟨t, ht1, ht⟩ := s
              dsimp only at ht1 ht ⊢
              have hks := moreK_size t i j
              refine K.seq <| K.seq ?_
              refine K.region ?_
              refine KO.q rfl (q_move rfl) ?_
              refine KO.q rfl (q_move rfl) ?_
              refine KO.q rfl (q_lt rfl rfl) ?_
              refine KO.done ?_
              refine K.dcond (s := 60) rfl (fun g60 => ?_) (fun g60 => ?_)
              · have hdr := more_drop (m := j) ht1 (show t < i by omega) (show i ≤ 20 by omega)
                obtain ⟨al, hal⟩ : ∃ al, al = ((moreK t i j).drop t).1 := ⟨_, rfl⟩
                have hal2 : al = if t + 1 = i then [0] else [] := by rw [hal, hdr]
                refine K.skip <| K.seq <| K.block <| K.seq ?_
                refine K.region ?_
                refine KO.q rfl (q_move rfl) ?_
                refine KO.q rfl (q_move rfl) ?_
                refine KO.loud rfl (OpL.callD rfl (h := lk_DropX b34 (moreK t i j) t (by omega))) ?_
                rintro _ _ ⟨_, ⟨pa, ca, rfl, rfl⟩, rfl⟩
                rw [← hal, hdr]
                refine KO.q rfl (q_assign rfl) ?_
                refine KO.done ?_
                refine K.seq ?_
                refine K.region ?_
                refine KO.q rfl (q_move rfl) ?_
                refine KO.q rfl (q_len Try.underlying36 rfl) ?_
                refine KO.q rfl (q_eq rfl rfl) ?_
                refine KO.q rfl (q_move rfl) ?_
                refine KO.dsplit 69 rfl (fun g69 => ?_) (fun g69 => ?_)
                · have hti : t + 1 = i := by
                    rcases Nat.decEq (t + 1) i with hn | hp
                    · rw [if_neg hn] at hal2; rw [hal2] at g69; exact absurd g69 (by decide)
                    · exact hp
                  rw [if_pos hti] at hal2
                  subst hal2
                  refine KO.q rfl (q_move rfl) ?_
                  refine KO.q rfl (q_ix (xs := ([0] : List Int)) 0 se_36 rfl rfl rfl isO (by repeat (first | exact List.Mem.head _ | apply List.Mem.tail)) rfl (by decide)) ?_
                  refine KO.q rfl (q_ldE (xs := ([0] : List Int)) (el := (0 : Int)) ck_3 rfl isO (by repeat (first | exact List.Mem.head _ | apply List.Mem.tail)) rfl rfl) ?_
                  refine KO.q rfl (q_eqT rfl rfl (rfl)) ?_
                  refine KO.q rfl (q_pickT rfl rfl) ?_
                  refine KO.q rfl (q_move rfl) ?_
                  refine KO.q rfl (q_move rfl) ?_
                  refine KO.q rfl (q_sub rfl rfl (by first | omega | (simp; omega)) (by first | omega | (simp; omega))) ?_
                  refine KO.q rfl (q_eqT rfl rfl (by omega)) ?_
                  refine KO.q rfl (q_bneF Try.underlying4 rfl rfl (rfl)) ?_
                  refine KO.q rfl (q_move rfl) ?_
                  refine KO.q rfl (q_move rfl) ?_
                  refine KO.q rfl (q_move rfl) ?_
                  refine KO.q rfl (q_sub rfl rfl (by first | omega | (simp; omega)) (by first | omega | (simp; omega))) ?_
                  refine KO.q rfl (q_lt rfl rfl) ?_
                  refine KO.q rfl (q_move rfl) ?_
                  refine KO.dsplit 85 rfl (fun g85 => ?_) (fun g85 => ?_)
                  · omega
                  · refine KO.skip rfl ?_
                    refine KO.skip rfl ?_
                    refine KO.skip rfl ?_
                    refine KO.q rfl (q_pickF rfl rfl) ?_
                    refine KO.q rfl (q_pickF rfl rfl) ?_
                    refine KO.done ?_
                    refine K.no rfl ?_
                    refine K.skip <| K.inBlock ?_
                    refine K.region ?_
                    refine KO.q rfl (q_move rfl) ?_
                    refine KO.q rfl (q_add rfl rfl (by first | omega | (simp; omega)) (by first | omega | (simp; omega))) ?_
                    refine KO.q rfl (q_assign rfl) ?_
                    refine KO.done ?_
                    exact K.weak (by repeat (first | exact Env.sub_nil _ | refine Env.sub_cons rfl ?_)) (fun w h => h.fitD) (ih ⟨t + 1, by omega, by omega⟩ (by show i - (t + 1) < i - t; omega))
                · have hti : ¬ t + 1 = i := fun hp => by
                    rw [if_pos hp] at hal2; rw [hal2] at g69; exact absurd rfl g69
                  rw [if_neg hti] at hal2
                  subst hal2
                  refine KO.skip rfl ?_
                  refine KO.skip rfl ?_
                  refine KO.skip rfl ?_
                  refine KO.skip rfl ?_
                  refine KO.q rfl (q_pickF rfl rfl) ?_
                  refine KO.q rfl (q_move rfl) ?_
                  refine KO.q rfl (q_move rfl) ?_
                  refine KO.q rfl (q_sub rfl rfl (by first | omega | (simp; omega)) (by first | omega | (simp; omega))) ?_
                  refine KO.q rfl (q_eqF rfl rfl (by omega)) ?_
                  refine KO.q rfl (q_bneF Try.underlying4 rfl rfl (rfl)) ?_
                  refine KO.q rfl (q_move rfl) ?_
                  refine KO.q rfl (q_move rfl) ?_
                  refine KO.q rfl (q_move rfl) ?_
                  refine KO.q rfl (q_sub rfl rfl (by first | omega | (simp; omega)) (by first | omega | (simp; omega))) ?_
                  refine KO.q rfl (q_lt rfl rfl) ?_
                  refine KO.q rfl (q_move rfl) ?_
                  refine KO.dsplit 85 rfl (fun g85 => ?_) (fun g85 => ?_)
                  · refine KO.q rfl (q_move rfl) ?_
                    refine KO.q rfl (q_len Try.underlying36 rfl) ?_
                    refine KO.q rfl (q_neF rfl rfl (rfl)) ?_
                    refine KO.q rfl (q_pickT rfl rfl) ?_
                    refine KO.q rfl (q_pickF rfl rfl) ?_
                    refine KO.done ?_
                    refine K.no rfl ?_
                    refine K.skip <| K.inBlock ?_
                    refine K.region ?_
                    refine KO.q rfl (q_move rfl) ?_
                    refine KO.q rfl (q_add rfl rfl (by first | omega | (simp; omega)) (by first | omega | (simp; omega))) ?_
                    refine KO.q rfl (q_assign rfl) ?_
                    refine KO.done ?_
                    exact K.weak (by repeat (first | exact Env.sub_nil _ | refine Env.sub_cons rfl ?_)) (fun w h => h.fitD) (ih ⟨t + 1, by omega, by omega⟩ (by show i - (t + 1) < i - t; omega))
                  · refine KO.skip rfl ?_
                    refine KO.skip rfl ?_
                    refine KO.skip rfl ?_
                    refine KO.q rfl (q_pickF rfl rfl) ?_
                    refine KO.q rfl (q_pickF rfl rfl) ?_
                    refine KO.done ?_
                    refine K.no rfl ?_
                    refine K.skip <| K.inBlock ?_
                    refine K.region ?_
                    refine KO.q rfl (q_move rfl) ?_
                    refine KO.q rfl (q_add rfl rfl (by first | omega | (simp; omega)) (by first | omega | (simp; omega))) ?_
                    refine KO.q rfl (q_assign rfl) ?_
                    refine KO.done ?_
                    exact K.weak (by repeat (first | exact Env.sub_nil _ | refine Env.sub_cons rfl ?_)) (fun w h => h.fitD) (ih ⟨t + 1, by omega, by omega⟩ (by show i - (t + 1) < i - t; omega))
              · obtain rfl : t = i := by omega
                clear ih
                refine K.exit rfl ?_
                refine K.seq ?_
                refine K.region ?_
                refine KO.q rfl (q_move rfl) ?_
                refine KO.loud rfl (OpL.callD rfl (h := lk_HoldsX b34 (moreK t t j) (by omega))) ?_
                rintro _ _ ⟨_, ⟨p9, d9, rfl, rfl⟩, rfl⟩
                rw [more_holds]
                refine KO.q rfl (q_assign rfl) ?_
                refine KO.done ?_
                refine K.seq <| K.seq ?_
                refine K.region ?_
                refine KO.q rfl (q_move rfl) ?_
                refine KO.q rfl (q_len Try.underlying50 rfl) ?_
                refine KO.q rfl (q_move rfl) ?_
                refine KO.q rfl (q_add rfl rfl (by first | omega | (simp; omega)) (by first | omega | (simp; omega))) ?_
                refine KO.q rfl (q_neF rfl rfl (by rw [List.length_cons, List.length_map, wrF_len]; omega)) ?_
                refine KO.q rfl (q_move rfl) ?_
                refine KO.q rfl (q_move rfl) ?_
                refine KO.q rfl (q_ix (xs := (⟨0, 5, 0⟩ : Hold) :: (wrF 0 j).map One.wait1) 0 se_50 rfl rfl rfl isO (by repeat (first | exact List.Mem.head _ | apply List.Mem.tail)) rfl (Nat.succ_pos _)) ?_
                refine KO.q rfl (q_ldEN (xs := (⟨0, 5, 0⟩ : Hold) :: (wrF 0 j).map One.wait1) (el := (⟨0, 5, 0⟩ : Hold)) ck_60 rfl isO (by repeat (first | exact List.Mem.head _ | apply List.Mem.tail)) rfl) ?_
                refine KO.q rfl (q_as_hold (q_build st_60 rfl (by repeat (first | exact Fill.nil | (apply Fill.cons; rfl; rfl; rfl) | exact SetN.nil | apply SetN.cons | exact SetAt.here | apply SetAt.there))) (by rfl)) ?_
                refine KO.q rfl (q_recNG Try.underlying60 hold_hp hold_hg rfl rfl (hold_eqD _ _ Try.underlying60)) ?_
                refine KO.q rfl (q_pickF rfl rfl) ?_
                refine KO.done ?_
                refine K.dcond (s := 104) rfl (fun g104 => ?_) (fun g104 => ?_)
                · exact absurd rfl g104
                · refine K.skip <| K.seq ?_
                  refine K.region ?_
                  refine KO.q rfl (q_move rfl) ?_
                  refine KO.loud rfl (OpL.callD rfl (h := lk_DropX b34 (moreK t t j) 0 (by omega))) ?_
                  rintro _ _ ⟨_, ⟨pb, cb, rfl, rfl⟩, rfl⟩
                  rw [more_last]
                  refine KO.q rfl (q_assign rfl) ?_
                  refine KO.done ?_
                  refine K.seq ?_
                  refine K.region ?_
                  refine KO.q rfl (q_move rfl) ?_
                  refine KO.q rfl (q_eq rfl rfl) ?_
                  refine KO.q rfl (q_move rfl) ?_
                  refine KO.dsplit 109 rfl (fun g109 => ?_) (fun g109 => ?_)
                  · rw [if_pos (by omega)]
                    refine KO.q rfl (q_move rfl) ?_
                    refine KO.q rfl (q_len Try.underlying36 rfl) ?_
                    refine KO.q rfl (q_eqT rfl rfl (rfl)) ?_
                    refine KO.q rfl (q_pickT rfl rfl) ?_
                    refine KO.q rfl (q_move rfl) ?_
                    refine KO.skip rfl ?_
                    refine KO.skip rfl ?_
                    refine KO.skip rfl ?_
                    refine KO.gone rfl ?_
                    refine KO.gone rfl ?_
                    refine KO.gone rfl ?_
                    refine KO.skip rfl ?_
                    refine KO.skip rfl ?_
                    refine KO.gone rfl ?_
                    refine KO.gone rfl ?_
                    refine KO.gone rfl ?_
                    refine KO.gone rfl ?_
                    refine KO.skip rfl ?_
                    refine KO.q rfl (q_pickT rfl rfl) ?_
                    refine KO.q rfl (q_assign rfl) ?_
                    refine KO.done ?_
                    refine K.ret (fn := Try.f11) Try.func11 (fun a w hk hs => res1 Try.results11 hk rfl) (fun w hs => ?_)
                    exact ⟨_, [], rfl, ⟨rfl, rfl⟩, hs.fitD⟩
                  · rw [if_neg (by omega)]
                    refine KO.skip rfl ?_
                    refine KO.skip rfl ?_
                    refine KO.skip rfl ?_
                    refine KO.q rfl (q_pickF rfl rfl) ?_
                    refine KO.q rfl (q_move rfl) ?_
                    refine KO.q rfl (q_move rfl) ?_
                    refine KO.q rfl (q_gt rfl rfl) ?_
                    refine KO.q rfl (q_move rfl) ?_
                    refine KO.dsplit 117 rfl (fun g117 => ?_) (fun g117 => ?_)
                    · refine KO.q rfl (q_move rfl) ?_
                      refine KO.q rfl (q_len Try.underlying36 rfl) ?_
                      refine KO.q rfl (q_eqT rfl rfl (rfl)) ?_
                      refine KO.q rfl (q_pickT rfl rfl) ?_
                      refine KO.q rfl (q_move rfl) ?_
                      refine KO.q rfl (q_move rfl) ?_
                      refine KO.q rfl (q_ix (xs := ([100] : List Int)) 0 se_36 rfl rfl rfl isO (by repeat (first | exact List.Mem.head _ | apply List.Mem.tail)) rfl (by decide)) ?_
                      refine KO.q rfl (q_ldE (xs := ([100] : List Int)) (el := (100 : Int)) ck_3 rfl isO (by repeat (first | exact List.Mem.head _ | apply List.Mem.tail)) rfl rfl) ?_
                      refine KO.q rfl (q_eqT rfl rfl (rfl)) ?_
                      refine KO.q rfl (q_pickT rfl rfl) ?_
                      refine KO.q rfl (q_pickF rfl rfl) ?_
                      refine KO.q rfl (q_assign rfl) ?_
                      refine KO.done ?_
                      refine K.ret (fn := Try.f11) Try.func11 (fun a w hk hs => res1 Try.results11 hk rfl) (fun w hs => ?_)
                      exact ⟨_, [], rfl, ⟨rfl, rfl⟩, hs.fitD⟩
                    · omega
end Go.Proofs.Ytfpkeanimkgpaaa.L
