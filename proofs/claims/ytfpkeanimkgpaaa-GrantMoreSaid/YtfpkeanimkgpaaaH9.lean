/- The laws GrantFits, GrantAgain, walked. -/
import Derived.Test.YtfpkeanimkgpaaaH8
import Derived.Test.YtfpkeanimkgpaaaPF
namespace Go.Proofs.Ytfpkeanimkgpaaa.L
open Go Go.Proofs
attribute [local irreducible] pv fv pt fz RowF RowO rowP old pure_ elA
set_option maxRecDepth 100000
set_option linter.unusedSimpArgs false
set_option linter.unusedVariables false

theorem lk_AskI (b : Nat) (k : Lk) (who m : Int) (hi : k.Inv) (hl : k.size ≤ 1000000) : Fn Try.prog 28 [.pointer (some ⟨b, 0, none⟩), .int .i64 who, .int .i64 m].toArray [LkX b k] (fun r post => ∃ k' t, k'.Inv ∧ k'.size ≤ k.size + 1 ∧ r = .bool t ∧ post = [LkX b k']) :=
  (lk_AskX b k who m hl).mono fun r post ⟨h1, h2⟩ => ⟨_, _, Lk.ask_inv hi who m, k.ask_size who m, h1, h2⟩
theorem lk_DropI (b : Nat) (k : Lk) (who : Int) (hi : k.Inv) (hl : k.size ≤ 1000000) : Fn Try.prog 30 [.pointer (some ⟨b, 0, none⟩), .int .i64 who].toArray [LkX b k] (fun r post => ∃ k' n po co, k'.Inv ∧ k'.size ≤ k.size ∧ r = .slice po n co ∧ post = [LkX b k']) :=
  ⟨(lk_DropX b k who hl).1, fun ρ L w hs => ((lk_DropX b k who hl).2 ρ L w hs).mono fun e w' ⟨v, post, he, ⟨po, co, h1, h2⟩, h3⟩ => ⟨v, [LkX b (k.drop who).2], he, ⟨_, _, po, co, Lk.drop_inv hi who, k.drop_size who, h1, rfl⟩, by subst h2; exact h3.fit (M := [LkX b (k.drop who).2]) (by repeat (first | exact Give.nil | (apply Give.perI; (repeat (first | exact List.Mem.head _ | apply List.Mem.tail))) | (apply Give.own; (repeat (first | exact Pick.here | apply Pick.there))))) (by repeat (first | exact Drop.refl | apply Drop.skip))⟩⟩
set_option maxHeartbeats 3200000 in
theorem law_GrantFits (q : Option Addr) (cap : Nat) (l : List Act) (hc : l.length ≤ cap) : Fn Try.prog 9 [.slice q l.length cap].toArray [RowF Kd.act q l] (fun r post => r = .bool true ∧ post = []) := by
  refine Fn.enter (N := 126) Try.func9 rfl Try.ntmps9 (by kernel_rfl) rfl (fun ρ L => ?_)
  refine K.seq ?_
  refine K.region ?_
  refine KO.q rfl (q_assign rfl) ?_
  refine KO.done ?_
  refine K.seq ?_
  refine K.region ?_
  refine KO.loud rfl (OpL.callD rfl (h := g_alive)) ?_
  rintro _ _ ⟨_, ⟨rfl, rfl⟩, rfl⟩
  refine KO.q rfl (q_assign rfl) ?_
  refine KO.done ?_
  refine K.seq <| K.seq ?_
  refine K.region ?_
  refine KO.q rfl (q_move rfl) ?_
  refine KO.q rfl (q_not rfl) ?_
  refine KO.q rfl (q_move rfl) ?_
  refine KO.q rfl (q_move rfl) ?_
  refine KO.q rfl (q_len Try.underlying44 rfl) ?_
  refine KO.q rfl (q_gt rfl rfl) ?_
  refine KO.q rfl (q_pickF rfl rfl) ?_
  refine KO.done ?_
  refine K.dcond (s := 16) rfl (fun g16 => ?_) (fun g16 => ?_)
  · refine K.seq ?_
    refine K.region ?_
    refine KO.q rfl (q_move rfl) ?_
    refine KO.q rfl (q_assign rfl) ?_
    refine KO.done ?_
    refine K.ret (fn := Try.f9) Try.func9 (fun a w hk hs => res1 Try.results9 hk rfl) (fun w hs => ?_)
    exact ⟨_, [], rfl, ⟨rfl, rfl⟩, hs.fitD⟩
  · refine K.skip <| K.seq ?_
    refine K.region ?_
    refine KO.q rfl (q_build st_48 rfl (by repeat (first | exact Fill.nil | (apply Fill.cons; rfl; rfl; rfl) | exact SetN.nil | apply SetN.cons | exact SetAt.here | apply SetAt.there))) ?_
    refine KO.loud rfl (l_box rfl rfl) ?_
    rintro _ _ ⟨b19, rfl, rfl⟩
    refine KO.q rfl (q_assign rfl) ?_
    refine KO.done ?_
    refine K.st (fun w h => lkX_new h) ?_
    refine K.seq <| K.seq ?_
    refine K.region ?_
    refine KO.q rfl (q_assign rfl) ?_
    refine KO.done ?_
    refine K.block ?_
    refine K.rounds2 (ι := { s : Nat × Lk // s.1 ≤ l.length ∧ s.2.size ≤ s.1 ∧ s.2.Inv }) (fun s => [(5, .int .i64 s.1.1), (0, .slice q l.length cap), (4, .pointer (some ⟨b19, 0, none⟩))]) (fun s => [LkX b19 s.1.2, RowF Kd.act q l] ++ L) (fun s => l.length - s.1.1) ⟨(0, ⟨[], []⟩), Nat.zero_le _, Nat.le_refl _, Lk.inv_nil⟩ (by repeat (first | exact Env.sub_nil _ | refine Env.sub_cons rfl ?_)) (fun w h => h.fitD) (fun s ih => ?_)
    obtain ⟨⟨i, kx⟩, hi, hsx, hinv⟩ := s
    dsimp only at hi hsx hinv ⊢
    refine K.seq <| K.seq ?_
    refine K.region ?_
    refine KO.q rfl (q_move rfl) ?_
    refine KO.q rfl (q_move rfl) ?_
    refine KO.q rfl (q_len Try.underlying44 rfl) ?_
    refine KO.q rfl (q_lt rfl rfl) ?_
    refine KO.done ?_
    refine K.dcond (s := 23) rfl (fun g23 => ?_) (fun g23 => ?_)
    · obtain ⟨a, ha⟩ : ∃ a, l[i]? = some a := ⟨_, List.getElem?_eq_getElem (by omega)⟩
      refine K.skip <| K.seq <| K.block <| K.seq <| K.seq ?_
      refine K.region ?_
      refine KO.q rfl (q_move rfl) ?_
      refine KO.q rfl (q_move rfl) ?_
      refine KO.q rfl (q_ix i se_44 rfl rfl rfl isF (by repeat (first | exact List.Mem.head _ | apply List.Mem.tail)) rfl (by omega)) ?_
      refine KO.q rfl (q_fieldE fo_54_0 rfl) ?_
      refine KO.q rfl (q_ldE ck_3 rfl isF (by repeat (first | exact List.Mem.head _ | apply List.Mem.tail)) ha rfl) ?_
      refine KO.q rfl (q_eq rfl rfl) ?_
      refine KO.done ?_
      refine K.dcond (s := 31) rfl (fun g31 => ?_) (fun g31 => ?_)
      · refine K.region ?_
        refine KO.q rfl (q_move rfl) ?_
        refine KO.q rfl (q_move rfl) ?_
        refine KO.q rfl (q_move rfl) ?_
        refine KO.q rfl (q_ix i se_44 rfl rfl rfl isF (by repeat (first | exact List.Mem.head _ | apply List.Mem.tail)) rfl (by omega)) ?_
        refine KO.q rfl (q_fieldE fo_54_1 rfl) ?_
        refine KO.q rfl (q_ldE ck_3 rfl isF (by repeat (first | exact List.Mem.head _ | apply List.Mem.tail)) ha rfl) ?_
        refine KO.q rfl (q_and rfl rfl) ?_
        refine KO.loud rfl (OpL.callD rfl (h := lk_DropI b19 kx _ hinv (by omega))) ?_
        rintro _ _ ⟨_, ⟨k', np, po, co, hkk, hsk, rfl, rfl⟩, rfl⟩
        have hsk : k'.size ≤ i + 1 := by omega
        refine KO.done ?_
        refine K.seq ?_
        refine K.region ?_
        refine KO.q rfl (q_move rfl) ?_
        refine KO.loud rfl (OpL.callD rfl (h := lk_HoldsX b19 k' (by omega))) ?_
        rintro _ _ ⟨_, ⟨p3, d3, rfl, rfl⟩, rfl⟩
        refine KO.q rfl (q_assign rfl) ?_
        refine KO.done ?_
        refine K.seq ?_
        refine K.region ?_
        refine KO.q rfl (q_assign rfl) ?_
        refine KO.done ?_
        refine K.block ?_
        have hol := k'.holds_len
        refine K.rounds2 (ι := { s : Nat // s ≤ k'.holds.length }) (fun s => [(7, .int .i64 s.1), (6, .slice p3 k'.holds.length d3), (5, .int .i64 i), (0, .slice q l.length cap), (4, .pointer (some ⟨b19, 0, none⟩))]) (fun s => [RowO Kd.hold 60 p3 d3 k'.holds, LkX b19 k', RowF Kd.act q l] ++ L) (fun s => k'.holds.length - s.1) ⟨0, Nat.zero_le _⟩ (by repeat (first | exact Env.sub_nil _ | refine Env.sub_cons rfl ?_)) (fun w h => h.fitD) (fun s ih2 => ?_)
        obtain ⟨na, hna⟩ := s
        dsimp only at hna ⊢
        refine K.seq <| K.seq ?_
        refine K.region ?_
        refine KO.q rfl (q_move rfl) ?_
        refine KO.q rfl (q_move rfl) ?_
        refine KO.q rfl (q_len Try.underlying50 rfl) ?_
        refine KO.q rfl (q_lt rfl rfl) ?_
        refine KO.done ?_
        refine K.dcond (s := 60) rfl (fun g60 => ?_) (fun g60 => ?_)
        · obtain ⟨x, hx⟩ : ∃ x, k'.holds[na]? = some x := ⟨_, List.getElem?_eq_getElem (by omega)⟩
          refine K.skip <| K.seq <| K.block <| K.seq <| K.seq ?_
          refine K.region ?_
          refine KO.q rfl (q_assign rfl) ?_
          refine KO.done ?_
          refine K.block ?_
          refine K.rounds2 (ι := { s : Nat // s ≤ na }) (fun s => [(8, .int .i64 s.1), (7, .int .i64 na), (6, .slice p3 k'.holds.length d3), (5, .int .i64 i), (0, .slice q l.length cap), (4, .pointer (some ⟨b19, 0, none⟩))]) (fun s => [RowO Kd.hold 60 p3 d3 k'.holds, LkX b19 k', RowF Kd.act q l] ++ L) (fun s => na - s.1) ⟨0, Nat.zero_le _⟩ (by repeat (first | exact Env.sub_nil _ | refine Env.sub_cons rfl ?_)) (fun w h => h.fitD) (fun s ih3 => ?_)
          obtain ⟨nb, hnb⟩ := s
          dsimp only at hnb ⊢
          refine K.seq <| K.seq ?_
          refine K.region ?_
          refine KO.q rfl (q_move rfl) ?_
          refine KO.q rfl (q_move rfl) ?_
          refine KO.q rfl (q_lt rfl rfl) ?_
          refine KO.done ?_
          refine K.dcond (s := 65) rfl (fun g65 => ?_) (fun g65 => ?_)
          · obtain ⟨y, hy⟩ : ∃ y, k'.holds[nb]? = some y := ⟨_, List.getElem?_eq_getElem (by omega)⟩
            have hp := Lk.holds_pair hkk (show na ≠ nb by omega) hx hy
            refine K.skip <| K.seq <| K.block <| K.seq ?_
            refine K.drawS [RowO Kd.hold 60 p3 d3 k'.holds] (fun _ h => h.subD) mixed ?_
            refine D.q 0 rfl (by kernel_rfl) (by kernel_rfl) (q_move rfl) (fun _ h => h.subD) ?_
            refine D.q 1 rfl (by kernel_rfl) (by kernel_rfl) (q_move rfl) (fun _ h => h.subD) ?_
            refine D.q 2 rfl (by kernel_rfl) (by kernel_rfl) (q_ix (xs := k'.holds) na se_50 rfl rfl rfl isO (by repeat (first | exact List.Mem.head _ | apply List.Mem.tail)) rfl (by omega)) (fun _ h => h.subD) ?_
            refine D.q 3 rfl (by kernel_rfl) (by kernel_rfl) (q_fieldE fo_60_1 rfl) (fun _ h => h.subD) ?_
            refine D.q 4 rfl (by kernel_rfl) (by kernel_rfl) (q_ldE (xs := k'.holds) ck_3 rfl isO (by repeat (first | exact List.Mem.head _ | apply List.Mem.tail)) hx rfl) (fun _ h => h.subD) ?_
            refine D.q 5 rfl (by kernel_rfl) (by kernel_rfl) (q_ne rfl rfl) (fun _ h => h.subD) ?_
            refine D.q 6 rfl (by kernel_rfl) (by kernel_rfl) (q_move rfl) (fun _ h => h.subD) ?_
            refine D.dsplit 74 rfl (fun g74 => ?_) (fun g74 => ?_)
            · refine D.q 7 rfl (by kernel_rfl) (by kernel_rfl) (q_move rfl) (fun _ h => h.subD) ?_
              refine D.q 8 rfl (by kernel_rfl) (by kernel_rfl) (q_move rfl) (fun _ h => h.subD) ?_
              refine D.q 9 rfl (by kernel_rfl) (by kernel_rfl) (q_ix (xs := k'.holds) nb se_50 rfl rfl rfl isO (by repeat (first | exact List.Mem.head _ | apply List.Mem.tail)) rfl (by omega)) (fun _ h => h.subD) ?_
              refine D.q 10 rfl (by kernel_rfl) (by kernel_rfl) (q_fieldE fo_60_1 rfl) (fun _ h => h.subD) ?_
              refine D.q 11 rfl (by kernel_rfl) (by kernel_rfl) (q_ldE (xs := k'.holds) ck_3 rfl isO (by repeat (first | exact List.Mem.head _ | apply List.Mem.tail)) hy rfl) (fun _ h => h.subD) ?_
              refine D.q 12 rfl (by kernel_rfl) (by kernel_rfl) (q_ne rfl rfl) (fun _ h => h.subD) ?_
              refine D.q 13 rfl (by kernel_rfl) (by kernel_rfl) (q_pickT rfl rfl) (fun _ h => h.subD) ?_
              refine D.q 14 rfl (by kernel_rfl) (by kernel_rfl) (q_move rfl) (fun _ h => h.subD) ?_
              refine D.dsplit 82 rfl (fun g82 => ?_) (fun g82 => ?_)
              · refine D.q 15 rfl (by kernel_rfl) (by kernel_rfl) (q_move rfl) (fun _ h => h.subD) ?_
                refine D.q 16 rfl (by kernel_rfl) (by kernel_rfl) (q_move rfl) (fun _ h => h.subD) ?_
                refine D.q 17 rfl (by kernel_rfl) (by kernel_rfl) (q_ix (xs := k'.holds) na se_50 rfl rfl rfl isO (by repeat (first | exact List.Mem.head _ | apply List.Mem.tail)) rfl (by omega)) (fun _ h => h.subD) ?_
                refine D.q 18 rfl (by kernel_rfl) (by kernel_rfl) (q_fieldE fo_60_1 rfl) (fun _ h => h.subD) ?_
                refine D.q 19 rfl (by kernel_rfl) (by kernel_rfl) (q_ldE (xs := k'.holds) ck_3 rfl isO (by repeat (first | exact List.Mem.head _ | apply List.Mem.tail)) hx rfl) (fun _ h => h.subD) ?_
                refine D.q 20 rfl (by kernel_rfl) (by kernel_rfl) (q_move rfl) (fun _ h => h.subD) ?_
                refine D.q 21 rfl (by kernel_rfl) (by kernel_rfl) (q_move rfl) (fun _ h => h.subD) ?_
                refine D.q 22 rfl (by kernel_rfl) (by kernel_rfl) (q_ix (xs := k'.holds) nb se_50 rfl rfl rfl isO (by repeat (first | exact List.Mem.head _ | apply List.Mem.tail)) rfl (by omega)) (fun _ h => h.subD) ?_
                refine D.q 23 rfl (by kernel_rfl) (by kernel_rfl) (q_fieldE fo_60_1 rfl) (fun _ h => h.subD) ?_
                refine D.q 24 rfl (by kernel_rfl) (by kernel_rfl) (q_ldE (xs := k'.holds) ck_3 rfl isO (by repeat (first | exact List.Mem.head _ | apply List.Mem.tail)) hy rfl) (fun _ h => h.subD) ?_
                refine D.all (rs := [25]) (by kernel_rfl) rfl (DAll.cons rfl (by kernel_rfl) (OpL.callD rfl (h := rm_Fits x.mode y.mode)) (.inr (by rintro _ _ ⟨_, ⟨rfl, rfl⟩, rfl⟩ w h; exact h.subD)) rfl ?_ DAll.nil)
                rintro _ _ ⟨_, ⟨rfl, rfl⟩, rfl⟩
                rw [hp.2 g74 g82]
                refine D.q 26 rfl (by kernel_rfl) (by kernel_rfl) (q_not rfl) (fun _ h => h.subD) ?_
                refine D.q 27 rfl (by kernel_rfl) (by kernel_rfl) (q_pickT rfl rfl) (fun _ h => h.subD) ?_
                refine D.q 28 rfl (by kernel_rfl) (by kernel_rfl) (q_move rfl) (fun _ h => h.subD) ?_
                refine D.q 29 rfl (by kernel_rfl) (by kernel_rfl) (q_move rfl) (fun _ h => h.subD) ?_
                refine D.q 30 rfl (by kernel_rfl) (by kernel_rfl) (q_move rfl) (fun _ h => h.subD) ?_
                refine D.q 31 rfl (by kernel_rfl) (by kernel_rfl) (q_ix (xs := k'.holds) na se_50 rfl rfl rfl isO (by repeat (first | exact List.Mem.head _ | apply List.Mem.tail)) rfl (by omega)) (fun _ h => h.subD) ?_
                refine D.q 32 rfl (by kernel_rfl) (by kernel_rfl) (q_fieldE fo_60_0 rfl) (fun _ h => h.subD) ?_
                refine D.q 33 rfl (by kernel_rfl) (by kernel_rfl) (q_ldE (xs := k'.holds) ck_3 rfl isO (by repeat (first | exact List.Mem.head _ | apply List.Mem.tail)) hx rfl) (fun _ h => h.subD) ?_
                refine D.q 34 rfl (by kernel_rfl) (by kernel_rfl) (q_move rfl) (fun _ h => h.subD) ?_
                refine D.q 35 rfl (by kernel_rfl) (by kernel_rfl) (q_move rfl) (fun _ h => h.subD) ?_
                refine D.q 36 rfl (by kernel_rfl) (by kernel_rfl) (q_ix (xs := k'.holds) nb se_50 rfl rfl rfl isO (by repeat (first | exact List.Mem.head _ | apply List.Mem.tail)) rfl (by omega)) (fun _ h => h.subD) ?_
                refine D.q 37 rfl (by kernel_rfl) (by kernel_rfl) (q_fieldE fo_60_0 rfl) (fun _ h => h.subD) ?_
                refine D.q 38 rfl (by kernel_rfl) (by kernel_rfl) (q_ldE (xs := k'.holds) ck_3 rfl isO (by repeat (first | exact List.Mem.head _ | apply List.Mem.tail)) hy rfl) (fun _ h => h.subD) ?_
                refine D.q 39 rfl (by kernel_rfl) (by kernel_rfl) (q_eqF rfl rfl (hp.1)) (fun _ h => h.subD) ?_
                refine D.q 40 rfl (by kernel_rfl) (by kernel_rfl) (q_pickF rfl rfl) (fun _ h => h.subD) ?_
                refine D.done (by kernel_rfl) ?_
                refine K.no rfl ?_
                refine K.skip <| K.inBlock ?_
                refine K.region ?_
                refine KO.q rfl (q_move rfl) ?_
                refine KO.q rfl (q_add rfl rfl (by first | omega | (simp; omega)) (by first | omega | (simp; omega))) ?_
                refine KO.q rfl (q_assign rfl) ?_
                refine KO.done ?_
                exact K.weak (by repeat (first | exact Env.sub_nil _ | refine Env.sub_cons rfl ?_)) (fun w h => h.fitD) (ih3 ⟨nb + 1, by omega⟩ (by show na - (nb + 1) < na - nb; omega))
              · refine D.skip 15 rfl (by kernel_rfl) (by kernel_rfl) (fun _ h => h.subD) ?_
                refine D.skip 16 rfl (by kernel_rfl) (by kernel_rfl) (fun _ h => h.subD) ?_
                refine D.skip 17 rfl (by kernel_rfl) (by kernel_rfl) (fun _ h => h.subD) ?_
                refine D.skip 18 rfl (by kernel_rfl) (by kernel_rfl) (fun _ h => h.subD) ?_
                refine D.skip 19 rfl (by kernel_rfl) (by kernel_rfl) (fun _ h => h.subD) ?_
                refine D.skip 20 rfl (by kernel_rfl) (by kernel_rfl) (fun _ h => h.subD) ?_
                refine D.skip 21 rfl (by kernel_rfl) (by kernel_rfl) (fun _ h => h.subD) ?_
                refine D.skip 22 rfl (by kernel_rfl) (by kernel_rfl) (fun _ h => h.subD) ?_
                refine D.skip 23 rfl (by kernel_rfl) (by kernel_rfl) (fun _ h => h.subD) ?_
                refine D.skip 24 rfl (by kernel_rfl) (by kernel_rfl) (fun _ h => h.subD) ?_
                refine D.skip 25 rfl (by kernel_rfl) (by kernel_rfl) (fun _ h => h.subD) ?_
                refine D.skip 26 rfl (by kernel_rfl) (by kernel_rfl) (fun _ h => h.subD) ?_
                refine D.q 27 rfl (by kernel_rfl) (by kernel_rfl) (q_pickF rfl rfl) (fun _ h => h.subD) ?_
                refine D.q 28 rfl (by kernel_rfl) (by kernel_rfl) (q_move rfl) (fun _ h => h.subD) ?_
                refine D.q 29 rfl (by kernel_rfl) (by kernel_rfl) (q_move rfl) (fun _ h => h.subD) ?_
                refine D.q 30 rfl (by kernel_rfl) (by kernel_rfl) (q_move rfl) (fun _ h => h.subD) ?_
                refine D.q 31 rfl (by kernel_rfl) (by kernel_rfl) (q_ix (xs := k'.holds) na se_50 rfl rfl rfl isO (by repeat (first | exact List.Mem.head _ | apply List.Mem.tail)) rfl (by omega)) (fun _ h => h.subD) ?_
                refine D.q 32 rfl (by kernel_rfl) (by kernel_rfl) (q_fieldE fo_60_0 rfl) (fun _ h => h.subD) ?_
                refine D.q 33 rfl (by kernel_rfl) (by kernel_rfl) (q_ldE (xs := k'.holds) ck_3 rfl isO (by repeat (first | exact List.Mem.head _ | apply List.Mem.tail)) hx rfl) (fun _ h => h.subD) ?_
                refine D.q 34 rfl (by kernel_rfl) (by kernel_rfl) (q_move rfl) (fun _ h => h.subD) ?_
                refine D.q 35 rfl (by kernel_rfl) (by kernel_rfl) (q_move rfl) (fun _ h => h.subD) ?_
                refine D.q 36 rfl (by kernel_rfl) (by kernel_rfl) (q_ix (xs := k'.holds) nb se_50 rfl rfl rfl isO (by repeat (first | exact List.Mem.head _ | apply List.Mem.tail)) rfl (by omega)) (fun _ h => h.subD) ?_
                refine D.q 37 rfl (by kernel_rfl) (by kernel_rfl) (q_fieldE fo_60_0 rfl) (fun _ h => h.subD) ?_
                refine D.q 38 rfl (by kernel_rfl) (by kernel_rfl) (q_ldE (xs := k'.holds) ck_3 rfl isO (by repeat (first | exact List.Mem.head _ | apply List.Mem.tail)) hy rfl) (fun _ h => h.subD) ?_
                refine D.q 39 rfl (by kernel_rfl) (by kernel_rfl) (q_eqF rfl rfl (hp.1)) (fun _ h => h.subD) ?_
                refine D.q 40 rfl (by kernel_rfl) (by kernel_rfl) (q_pickF rfl rfl) (fun _ h => h.subD) ?_
                refine D.done (by kernel_rfl) ?_
                refine K.no rfl ?_
                refine K.skip <| K.inBlock ?_
                refine K.region ?_
                refine KO.q rfl (q_move rfl) ?_
                refine KO.q rfl (q_add rfl rfl (by first | omega | (simp; omega)) (by first | omega | (simp; omega))) ?_
                refine KO.q rfl (q_assign rfl) ?_
                refine KO.done ?_
                exact K.weak (by repeat (first | exact Env.sub_nil _ | refine Env.sub_cons rfl ?_)) (fun w h => h.fitD) (ih3 ⟨nb + 1, by omega⟩ (by show na - (nb + 1) < na - nb; omega))
            · refine D.skip 7 rfl (by kernel_rfl) (by kernel_rfl) (fun _ h => h.subD) ?_
              refine D.skip 8 rfl (by kernel_rfl) (by kernel_rfl) (fun _ h => h.subD) ?_
              refine D.skip 9 rfl (by kernel_rfl) (by kernel_rfl) (fun _ h => h.subD) ?_
              refine D.skip 10 rfl (by kernel_rfl) (by kernel_rfl) (fun _ h => h.subD) ?_
              refine D.skip 11 rfl (by kernel_rfl) (by kernel_rfl) (fun _ h => h.subD) ?_
              refine D.skip 12 rfl (by kernel_rfl) (by kernel_rfl) (fun _ h => h.subD) ?_
              refine D.q 13 rfl (by kernel_rfl) (by kernel_rfl) (q_pickF rfl rfl) (fun _ h => h.subD) ?_
              refine D.q 14 rfl (by kernel_rfl) (by kernel_rfl) (q_move rfl) (fun _ h => h.subD) ?_
              refine D.skip 15 rfl (by kernel_rfl) (by kernel_rfl) (fun _ h => h.subD) ?_
              refine D.skip 16 rfl (by kernel_rfl) (by kernel_rfl) (fun _ h => h.subD) ?_
              refine D.skip 17 rfl (by kernel_rfl) (by kernel_rfl) (fun _ h => h.subD) ?_
              refine D.skip 18 rfl (by kernel_rfl) (by kernel_rfl) (fun _ h => h.subD) ?_
              refine D.skip 19 rfl (by kernel_rfl) (by kernel_rfl) (fun _ h => h.subD) ?_
              refine D.skip 20 rfl (by kernel_rfl) (by kernel_rfl) (fun _ h => h.subD) ?_
              refine D.skip 21 rfl (by kernel_rfl) (by kernel_rfl) (fun _ h => h.subD) ?_
              refine D.skip 22 rfl (by kernel_rfl) (by kernel_rfl) (fun _ h => h.subD) ?_
              refine D.skip 23 rfl (by kernel_rfl) (by kernel_rfl) (fun _ h => h.subD) ?_
              refine D.skip 24 rfl (by kernel_rfl) (by kernel_rfl) (fun _ h => h.subD) ?_
              refine D.skip 25 rfl (by kernel_rfl) (by kernel_rfl) (fun _ h => h.subD) ?_
              refine D.skip 26 rfl (by kernel_rfl) (by kernel_rfl) (fun _ h => h.subD) ?_
              refine D.q 27 rfl (by kernel_rfl) (by kernel_rfl) (q_pickF rfl rfl) (fun _ h => h.subD) ?_
              refine D.q 28 rfl (by kernel_rfl) (by kernel_rfl) (q_move rfl) (fun _ h => h.subD) ?_
              refine D.q 29 rfl (by kernel_rfl) (by kernel_rfl) (q_move rfl) (fun _ h => h.subD) ?_
              refine D.q 30 rfl (by kernel_rfl) (by kernel_rfl) (q_move rfl) (fun _ h => h.subD) ?_
              refine D.q 31 rfl (by kernel_rfl) (by kernel_rfl) (q_ix (xs := k'.holds) na se_50 rfl rfl rfl isO (by repeat (first | exact List.Mem.head _ | apply List.Mem.tail)) rfl (by omega)) (fun _ h => h.subD) ?_
              refine D.q 32 rfl (by kernel_rfl) (by kernel_rfl) (q_fieldE fo_60_0 rfl) (fun _ h => h.subD) ?_
              refine D.q 33 rfl (by kernel_rfl) (by kernel_rfl) (q_ldE (xs := k'.holds) ck_3 rfl isO (by repeat (first | exact List.Mem.head _ | apply List.Mem.tail)) hx rfl) (fun _ h => h.subD) ?_
              refine D.q 34 rfl (by kernel_rfl) (by kernel_rfl) (q_move rfl) (fun _ h => h.subD) ?_
              refine D.q 35 rfl (by kernel_rfl) (by kernel_rfl) (q_move rfl) (fun _ h => h.subD) ?_
              refine D.q 36 rfl (by kernel_rfl) (by kernel_rfl) (q_ix (xs := k'.holds) nb se_50 rfl rfl rfl isO (by repeat (first | exact List.Mem.head _ | apply List.Mem.tail)) rfl (by omega)) (fun _ h => h.subD) ?_
              refine D.q 37 rfl (by kernel_rfl) (by kernel_rfl) (q_fieldE fo_60_0 rfl) (fun _ h => h.subD) ?_
              refine D.q 38 rfl (by kernel_rfl) (by kernel_rfl) (q_ldE (xs := k'.holds) ck_3 rfl isO (by repeat (first | exact List.Mem.head _ | apply List.Mem.tail)) hy rfl) (fun _ h => h.subD) ?_
              refine D.q 39 rfl (by kernel_rfl) (by kernel_rfl) (q_eqF rfl rfl (hp.1)) (fun _ h => h.subD) ?_
              refine D.q 40 rfl (by kernel_rfl) (by kernel_rfl) (q_pickF rfl rfl) (fun _ h => h.subD) ?_
              refine D.done (by kernel_rfl) ?_
              refine K.no rfl ?_
              refine K.skip <| K.inBlock ?_
              refine K.region ?_
              refine KO.q rfl (q_move rfl) ?_
              refine KO.q rfl (q_add rfl rfl (by first | omega | (simp; omega)) (by first | omega | (simp; omega))) ?_
              refine KO.q rfl (q_assign rfl) ?_
              refine KO.done ?_
              exact K.weak (by repeat (first | exact Env.sub_nil _ | refine Env.sub_cons rfl ?_)) (fun w h => h.fitD) (ih3 ⟨nb + 1, by omega⟩ (by show na - (nb + 1) < na - nb; omega))
          · refine K.exit rfl ?_
            refine K.seq ?_
            refine K.region ?_
            refine KO.q rfl (q_move rfl) ?_
            refine KO.q rfl (q_move rfl) ?_
            refine KO.q rfl (q_ix (xs := k'.holds) na se_50 rfl rfl rfl isO (by repeat (first | exact List.Mem.head _ | apply List.Mem.tail)) rfl (by omega)) ?_
            refine KO.q rfl (q_fieldE fo_60_2 rfl) ?_
            refine KO.q rfl (q_ldE (xs := k'.holds) ck_3 rfl isO (by repeat (first | exact List.Mem.head _ | apply List.Mem.tail)) hx rfl) ?_
            refine KO.q rfl (q_ne rfl rfl) ?_
            refine KO.q rfl (q_move rfl) ?_
            refine KO.dsplit 115 rfl (fun g115 => ?_) (fun g115 => ?_)
            · refine KO.q rfl (q_move rfl) ?_
              refine KO.q rfl (q_move rfl) ?_
              refine KO.q rfl (q_move rfl) ?_
              refine KO.q rfl (q_ix (xs := k'.holds) na se_50 rfl rfl rfl isO (by repeat (first | exact List.Mem.head _ | apply List.Mem.tail)) rfl (by omega)) ?_
              refine KO.q rfl (q_fieldE fo_60_0 rfl) ?_
              refine KO.q rfl (q_ldE (xs := k'.holds) ck_3 rfl isO (by repeat (first | exact List.Mem.head _ | apply List.Mem.tail)) hx rfl) ?_
              refine KO.loud rfl (OpL.callD rfl (h := lk_WaitsX b19 k' x.who (by omega))) ?_
              rintro _ _ ⟨_, ⟨p5, d5, rfl, rfl⟩, rfl⟩
              have hwt := Lk.holds_wants hkk (List.mem_of_getElem? hx) g115
              refine KO.q rfl (q_len Try.underlying36 rfl) ?_
              refine KO.q rfl (q_eqF rfl rfl (by omega)) ?_
              refine KO.q rfl (q_pickT rfl rfl) ?_
              refine KO.done ?_
              refine K.no rfl ?_
              refine K.skip <| K.inBlock ?_
              refine K.region ?_
              refine KO.q rfl (q_move rfl) ?_
              refine KO.q rfl (q_add rfl rfl (by first | omega | (simp; omega)) (by first | omega | (simp; omega))) ?_
              refine KO.q rfl (q_assign rfl) ?_
              refine KO.done ?_
              exact K.weak (by repeat (first | exact Env.sub_nil _ | refine Env.sub_cons rfl ?_)) (fun w h => h.fitD) (ih2 ⟨na + 1, by omega⟩ (by show k'.holds.length - (na + 1) < k'.holds.length - na; omega))
            · refine KO.skip rfl ?_
              refine KO.skip rfl ?_
              refine KO.skip rfl ?_
              refine KO.skip rfl ?_
              refine KO.skip rfl ?_
              refine KO.skip rfl ?_
              refine KO.skip rfl ?_
              refine KO.skip rfl ?_
              refine KO.skip rfl ?_
              refine KO.q rfl (q_pickF rfl rfl) ?_
              refine KO.done ?_
              refine K.no rfl ?_
              refine K.skip <| K.inBlock ?_
              refine K.region ?_
              refine KO.q rfl (q_move rfl) ?_
              refine KO.q rfl (q_add rfl rfl (by first | omega | (simp; omega)) (by first | omega | (simp; omega))) ?_
              refine KO.q rfl (q_assign rfl) ?_
              refine KO.done ?_
              exact K.weak (by repeat (first | exact Env.sub_nil _ | refine Env.sub_cons rfl ?_)) (fun w h => h.fitD) (ih2 ⟨na + 1, by omega⟩ (by show k'.holds.length - (na + 1) < k'.holds.length - na; omega))
        · refine K.exit rfl ?_
          refine K.inBlock ?_
          refine K.region ?_
          refine KO.q rfl (q_move rfl) ?_
          refine KO.q rfl (q_add rfl rfl (by first | omega | (simp; omega)) (by first | omega | (simp; omega))) ?_
          refine KO.q rfl (q_assign rfl) ?_
          refine KO.done ?_
          exact K.weak (by repeat (first | exact Env.sub_nil _ | refine Env.sub_cons rfl ?_)) (fun w h => h.fitD) (ih ⟨(i + 1, k'), by show i + 1 ≤ _; omega, hsk, hkk⟩ (by show l.length - (i + 1) < l.length - i; omega))
      · refine K.drawU (by repeat (first | apply SubL.pers | apply SubL.drop | exact SubL.none)) mixed ?_
        refine D.q 0 rfl (by kernel_rfl) (by kernel_rfl) (q_move rfl) (fun _ h => h.subD) ?_
        refine D.q 1 rfl (by kernel_rfl) (by kernel_rfl) (q_move rfl) (fun _ h => h.subD) ?_
        refine D.q 2 rfl (by kernel_rfl) (by kernel_rfl) (q_move rfl) (fun _ h => h.subD) ?_
        refine D.q 3 rfl (by kernel_rfl) (by kernel_rfl) (q_ix i se_44 rfl rfl rfl isF (by repeat (first | exact List.Mem.head _ | apply List.Mem.tail)) rfl (by omega)) (fun _ h => h.subD) ?_
        refine D.q 4 rfl (by kernel_rfl) (by kernel_rfl) (q_fieldE fo_54_1 rfl) (fun _ h => h.subD) ?_
        refine D.q 5 rfl (by kernel_rfl) (by kernel_rfl) (q_ldE ck_3 rfl isF (by repeat (first | exact List.Mem.head _ | apply List.Mem.tail)) ha rfl) (fun _ h => h.subD) ?_
        refine D.q 6 rfl (by kernel_rfl) (by kernel_rfl) (q_and rfl rfl) (fun _ h => h.subD) ?_
        refine D.q 7 rfl (by kernel_rfl) (by kernel_rfl) (q_move rfl) (fun _ h => h.subD) ?_
        refine D.q 8 rfl (by kernel_rfl) (by kernel_rfl) (q_move rfl) (fun _ h => h.subD) ?_
        refine D.q 9 rfl (by kernel_rfl) (by kernel_rfl) (q_ix i se_44 rfl rfl rfl isF (by repeat (first | exact List.Mem.head _ | apply List.Mem.tail)) rfl (by omega)) (fun _ h => h.subD) ?_
        refine D.q 10 rfl (by kernel_rfl) (by kernel_rfl) (q_fieldE fo_54_2 rfl) (fun _ h => h.subD) ?_
        refine D.q 11 rfl (by kernel_rfl) (by kernel_rfl) (q_ldE ck_3 rfl isF (by repeat (first | exact List.Mem.head _ | apply List.Mem.tail)) ha rfl) (fun _ h => h.subD) ?_
        refine D.q 12 rfl (by kernel_rfl) (by kernel_rfl) (q_and rfl rfl) (fun _ h => h.subD) ?_
        refine D.q 13 rfl (by kernel_rfl) (by kernel_rfl) (q_rem rfl rfl (by first | omega | (simp; omega))) (fun _ h => h.subD) ?_
        refine D.all (rs := [14]) (by kernel_rfl) rfl (DAll.cons rfl (by kernel_rfl) (OpL.callD rfl (h := lk_AskI b19 kx _ _ hinv (by omega))) (.inr (by rintro _ _ ⟨_, ⟨k', tp, hkk, hsk, rfl, rfl⟩, rfl⟩ w h; exact h.subD)) rfl ?_ DAll.nil)
        rintro _ _ ⟨_, ⟨k', tp, hkk, hsk, rfl, rfl⟩, rfl⟩
        have hsk : k'.size ≤ i + 1 := by omega
        refine D.done (by kernel_rfl) ?_
        refine K.seq ?_
        refine K.region ?_
        refine KO.q rfl (q_move rfl) ?_
        refine KO.loud rfl (OpL.callD rfl (h := lk_HoldsX b19 k' (by omega))) ?_
        rintro _ _ ⟨_, ⟨p3, d3, rfl, rfl⟩, rfl⟩
        refine KO.q rfl (q_assign rfl) ?_
        refine KO.done ?_
        refine K.seq ?_
        refine K.region ?_
        refine KO.q rfl (q_assign rfl) ?_
        refine KO.done ?_
        refine K.block ?_
        have hol := k'.holds_len
        refine K.rounds2 (ι := { s : Nat // s ≤ k'.holds.length }) (fun s => [(7, .int .i64 s.1), (6, .slice p3 k'.holds.length d3), (5, .int .i64 i), (0, .slice q l.length cap), (4, .pointer (some ⟨b19, 0, none⟩))]) (fun s => [RowO Kd.hold 60 p3 d3 k'.holds, LkX b19 k', RowF Kd.act q l] ++ L) (fun s => k'.holds.length - s.1) ⟨0, Nat.zero_le _⟩ (by repeat (first | exact Env.sub_nil _ | refine Env.sub_cons rfl ?_)) (fun w h => h.fitD) (fun s ih2 => ?_)
        obtain ⟨na, hna⟩ := s
        dsimp only at hna ⊢
        refine K.seq <| K.seq ?_
        refine K.region ?_
        refine KO.q rfl (q_move rfl) ?_
        refine KO.q rfl (q_move rfl) ?_
        refine KO.q rfl (q_len Try.underlying50 rfl) ?_
        refine KO.q rfl (q_lt rfl rfl) ?_
        refine KO.done ?_
        refine K.dcond (s := 60) rfl (fun g60 => ?_) (fun g60 => ?_)
        · obtain ⟨x, hx⟩ : ∃ x, k'.holds[na]? = some x := ⟨_, List.getElem?_eq_getElem (by omega)⟩
          refine K.skip <| K.seq <| K.block <| K.seq <| K.seq ?_
          refine K.region ?_
          refine KO.q rfl (q_assign rfl) ?_
          refine KO.done ?_
          refine K.block ?_
          refine K.rounds2 (ι := { s : Nat // s ≤ na }) (fun s => [(8, .int .i64 s.1), (7, .int .i64 na), (6, .slice p3 k'.holds.length d3), (5, .int .i64 i), (0, .slice q l.length cap), (4, .pointer (some ⟨b19, 0, none⟩))]) (fun s => [RowO Kd.hold 60 p3 d3 k'.holds, LkX b19 k', RowF Kd.act q l] ++ L) (fun s => na - s.1) ⟨0, Nat.zero_le _⟩ (by repeat (first | exact Env.sub_nil _ | refine Env.sub_cons rfl ?_)) (fun w h => h.fitD) (fun s ih3 => ?_)
          obtain ⟨nb, hnb⟩ := s
          dsimp only at hnb ⊢
          refine K.seq <| K.seq ?_
          refine K.region ?_
          refine KO.q rfl (q_move rfl) ?_
          refine KO.q rfl (q_move rfl) ?_
          refine KO.q rfl (q_lt rfl rfl) ?_
          refine KO.done ?_
          refine K.dcond (s := 65) rfl (fun g65 => ?_) (fun g65 => ?_)
          · obtain ⟨y, hy⟩ : ∃ y, k'.holds[nb]? = some y := ⟨_, List.getElem?_eq_getElem (by omega)⟩
            have hp := Lk.holds_pair hkk (show na ≠ nb by omega) hx hy
            refine K.skip <| K.seq <| K.block <| K.seq ?_
            refine K.drawS [RowO Kd.hold 60 p3 d3 k'.holds] (fun _ h => h.subD) mixed ?_
            refine D.q 0 rfl (by kernel_rfl) (by kernel_rfl) (q_move rfl) (fun _ h => h.subD) ?_
            refine D.q 1 rfl (by kernel_rfl) (by kernel_rfl) (q_move rfl) (fun _ h => h.subD) ?_
            refine D.q 2 rfl (by kernel_rfl) (by kernel_rfl) (q_ix (xs := k'.holds) na se_50 rfl rfl rfl isO (by repeat (first | exact List.Mem.head _ | apply List.Mem.tail)) rfl (by omega)) (fun _ h => h.subD) ?_
            refine D.q 3 rfl (by kernel_rfl) (by kernel_rfl) (q_fieldE fo_60_1 rfl) (fun _ h => h.subD) ?_
            refine D.q 4 rfl (by kernel_rfl) (by kernel_rfl) (q_ldE (xs := k'.holds) ck_3 rfl isO (by repeat (first | exact List.Mem.head _ | apply List.Mem.tail)) hx rfl) (fun _ h => h.subD) ?_
            refine D.q 5 rfl (by kernel_rfl) (by kernel_rfl) (q_ne rfl rfl) (fun _ h => h.subD) ?_
            refine D.q 6 rfl (by kernel_rfl) (by kernel_rfl) (q_move rfl) (fun _ h => h.subD) ?_
            refine D.dsplit 74 rfl (fun g74 => ?_) (fun g74 => ?_)
            · refine D.q 7 rfl (by kernel_rfl) (by kernel_rfl) (q_move rfl) (fun _ h => h.subD) ?_
              refine D.q 8 rfl (by kernel_rfl) (by kernel_rfl) (q_move rfl) (fun _ h => h.subD) ?_
              refine D.q 9 rfl (by kernel_rfl) (by kernel_rfl) (q_ix (xs := k'.holds) nb se_50 rfl rfl rfl isO (by repeat (first | exact List.Mem.head _ | apply List.Mem.tail)) rfl (by omega)) (fun _ h => h.subD) ?_
              refine D.q 10 rfl (by kernel_rfl) (by kernel_rfl) (q_fieldE fo_60_1 rfl) (fun _ h => h.subD) ?_
              refine D.q 11 rfl (by kernel_rfl) (by kernel_rfl) (q_ldE (xs := k'.holds) ck_3 rfl isO (by repeat (first | exact List.Mem.head _ | apply List.Mem.tail)) hy rfl) (fun _ h => h.subD) ?_
              refine D.q 12 rfl (by kernel_rfl) (by kernel_rfl) (q_ne rfl rfl) (fun _ h => h.subD) ?_
              refine D.q 13 rfl (by kernel_rfl) (by kernel_rfl) (q_pickT rfl rfl) (fun _ h => h.subD) ?_
              refine D.q 14 rfl (by kernel_rfl) (by kernel_rfl) (q_move rfl) (fun _ h => h.subD) ?_
              refine D.dsplit 82 rfl (fun g82 => ?_) (fun g82 => ?_)
              · refine D.q 15 rfl (by kernel_rfl) (by kernel_rfl) (q_move rfl) (fun _ h => h.subD) ?_
                refine D.q 16 rfl (by kernel_rfl) (by kernel_rfl) (q_move rfl) (fun _ h => h.subD) ?_
                refine D.q 17 rfl (by kernel_rfl) (by kernel_rfl) (q_ix (xs := k'.holds) na se_50 rfl rfl rfl isO (by repeat (first | exact List.Mem.head _ | apply List.Mem.tail)) rfl (by omega)) (fun _ h => h.subD) ?_
                refine D.q 18 rfl (by kernel_rfl) (by kernel_rfl) (q_fieldE fo_60_1 rfl) (fun _ h => h.subD) ?_
                refine D.q 19 rfl (by kernel_rfl) (by kernel_rfl) (q_ldE (xs := k'.holds) ck_3 rfl isO (by repeat (first | exact List.Mem.head _ | apply List.Mem.tail)) hx rfl) (fun _ h => h.subD) ?_
                refine D.q 20 rfl (by kernel_rfl) (by kernel_rfl) (q_move rfl) (fun _ h => h.subD) ?_
                refine D.q 21 rfl (by kernel_rfl) (by kernel_rfl) (q_move rfl) (fun _ h => h.subD) ?_
                refine D.q 22 rfl (by kernel_rfl) (by kernel_rfl) (q_ix (xs := k'.holds) nb se_50 rfl rfl rfl isO (by repeat (first | exact List.Mem.head _ | apply List.Mem.tail)) rfl (by omega)) (fun _ h => h.subD) ?_
                refine D.q 23 rfl (by kernel_rfl) (by kernel_rfl) (q_fieldE fo_60_1 rfl) (fun _ h => h.subD) ?_
                refine D.q 24 rfl (by kernel_rfl) (by kernel_rfl) (q_ldE (xs := k'.holds) ck_3 rfl isO (by repeat (first | exact List.Mem.head _ | apply List.Mem.tail)) hy rfl) (fun _ h => h.subD) ?_
                refine D.all (rs := [25]) (by kernel_rfl) rfl (DAll.cons rfl (by kernel_rfl) (OpL.callD rfl (h := rm_Fits x.mode y.mode)) (.inr (by rintro _ _ ⟨_, ⟨rfl, rfl⟩, rfl⟩ w h; exact h.subD)) rfl ?_ DAll.nil)
                rintro _ _ ⟨_, ⟨rfl, rfl⟩, rfl⟩
                rw [hp.2 g74 g82]
                refine D.q 26 rfl (by kernel_rfl) (by kernel_rfl) (q_not rfl) (fun _ h => h.subD) ?_
                refine D.q 27 rfl (by kernel_rfl) (by kernel_rfl) (q_pickT rfl rfl) (fun _ h => h.subD) ?_
                refine D.q 28 rfl (by kernel_rfl) (by kernel_rfl) (q_move rfl) (fun _ h => h.subD) ?_
                refine D.q 29 rfl (by kernel_rfl) (by kernel_rfl) (q_move rfl) (fun _ h => h.subD) ?_
                refine D.q 30 rfl (by kernel_rfl) (by kernel_rfl) (q_move rfl) (fun _ h => h.subD) ?_
                refine D.q 31 rfl (by kernel_rfl) (by kernel_rfl) (q_ix (xs := k'.holds) na se_50 rfl rfl rfl isO (by repeat (first | exact List.Mem.head _ | apply List.Mem.tail)) rfl (by omega)) (fun _ h => h.subD) ?_
                refine D.q 32 rfl (by kernel_rfl) (by kernel_rfl) (q_fieldE fo_60_0 rfl) (fun _ h => h.subD) ?_
                refine D.q 33 rfl (by kernel_rfl) (by kernel_rfl) (q_ldE (xs := k'.holds) ck_3 rfl isO (by repeat (first | exact List.Mem.head _ | apply List.Mem.tail)) hx rfl) (fun _ h => h.subD) ?_
                refine D.q 34 rfl (by kernel_rfl) (by kernel_rfl) (q_move rfl) (fun _ h => h.subD) ?_
                refine D.q 35 rfl (by kernel_rfl) (by kernel_rfl) (q_move rfl) (fun _ h => h.subD) ?_
                refine D.q 36 rfl (by kernel_rfl) (by kernel_rfl) (q_ix (xs := k'.holds) nb se_50 rfl rfl rfl isO (by repeat (first | exact List.Mem.head _ | apply List.Mem.tail)) rfl (by omega)) (fun _ h => h.subD) ?_
                refine D.q 37 rfl (by kernel_rfl) (by kernel_rfl) (q_fieldE fo_60_0 rfl) (fun _ h => h.subD) ?_
                refine D.q 38 rfl (by kernel_rfl) (by kernel_rfl) (q_ldE (xs := k'.holds) ck_3 rfl isO (by repeat (first | exact List.Mem.head _ | apply List.Mem.tail)) hy rfl) (fun _ h => h.subD) ?_
                refine D.q 39 rfl (by kernel_rfl) (by kernel_rfl) (q_eqF rfl rfl (hp.1)) (fun _ h => h.subD) ?_
                refine D.q 40 rfl (by kernel_rfl) (by kernel_rfl) (q_pickF rfl rfl) (fun _ h => h.subD) ?_
                refine D.done (by kernel_rfl) ?_
                refine K.no rfl ?_
                refine K.skip <| K.inBlock ?_
                refine K.region ?_
                refine KO.q rfl (q_move rfl) ?_
                refine KO.q rfl (q_add rfl rfl (by first | omega | (simp; omega)) (by first | omega | (simp; omega))) ?_
                refine KO.q rfl (q_assign rfl) ?_
                refine KO.done ?_
                exact K.weak (by repeat (first | exact Env.sub_nil _ | refine Env.sub_cons rfl ?_)) (fun w h => h.fitD) (ih3 ⟨nb + 1, by omega⟩ (by show na - (nb + 1) < na - nb; omega))
              · refine D.skip 15 rfl (by kernel_rfl) (by kernel_rfl) (fun _ h => h.subD) ?_
                refine D.skip 16 rfl (by kernel_rfl) (by kernel_rfl) (fun _ h => h.subD) ?_
                refine D.skip 17 rfl (by kernel_rfl) (by kernel_rfl) (fun _ h => h.subD) ?_
                refine D.skip 18 rfl (by kernel_rfl) (by kernel_rfl) (fun _ h => h.subD) ?_
                refine D.skip 19 rfl (by kernel_rfl) (by kernel_rfl) (fun _ h => h.subD) ?_
                refine D.skip 20 rfl (by kernel_rfl) (by kernel_rfl) (fun _ h => h.subD) ?_
                refine D.skip 21 rfl (by kernel_rfl) (by kernel_rfl) (fun _ h => h.subD) ?_
                refine D.skip 22 rfl (by kernel_rfl) (by kernel_rfl) (fun _ h => h.subD) ?_
                refine D.skip 23 rfl (by kernel_rfl) (by kernel_rfl) (fun _ h => h.subD) ?_
                refine D.skip 24 rfl (by kernel_rfl) (by kernel_rfl) (fun _ h => h.subD) ?_
                refine D.skip 25 rfl (by kernel_rfl) (by kernel_rfl) (fun _ h => h.subD) ?_
                refine D.skip 26 rfl (by kernel_rfl) (by kernel_rfl) (fun _ h => h.subD) ?_
                refine D.q 27 rfl (by kernel_rfl) (by kernel_rfl) (q_pickF rfl rfl) (fun _ h => h.subD) ?_
                refine D.q 28 rfl (by kernel_rfl) (by kernel_rfl) (q_move rfl) (fun _ h => h.subD) ?_
                refine D.q 29 rfl (by kernel_rfl) (by kernel_rfl) (q_move rfl) (fun _ h => h.subD) ?_
                refine D.q 30 rfl (by kernel_rfl) (by kernel_rfl) (q_move rfl) (fun _ h => h.subD) ?_
                refine D.q 31 rfl (by kernel_rfl) (by kernel_rfl) (q_ix (xs := k'.holds) na se_50 rfl rfl rfl isO (by repeat (first | exact List.Mem.head _ | apply List.Mem.tail)) rfl (by omega)) (fun _ h => h.subD) ?_
                refine D.q 32 rfl (by kernel_rfl) (by kernel_rfl) (q_fieldE fo_60_0 rfl) (fun _ h => h.subD) ?_
                refine D.q 33 rfl (by kernel_rfl) (by kernel_rfl) (q_ldE (xs := k'.holds) ck_3 rfl isO (by repeat (first | exact List.Mem.head _ | apply List.Mem.tail)) hx rfl) (fun _ h => h.subD) ?_
                refine D.q 34 rfl (by kernel_rfl) (by kernel_rfl) (q_move rfl) (fun _ h => h.subD) ?_
                refine D.q 35 rfl (by kernel_rfl) (by kernel_rfl) (q_move rfl) (fun _ h => h.subD) ?_
                refine D.q 36 rfl (by kernel_rfl) (by kernel_rfl) (q_ix (xs := k'.holds) nb se_50 rfl rfl rfl isO (by repeat (first | exact List.Mem.head _ | apply List.Mem.tail)) rfl (by omega)) (fun _ h => h.subD) ?_
                refine D.q 37 rfl (by kernel_rfl) (by kernel_rfl) (q_fieldE fo_60_0 rfl) (fun _ h => h.subD) ?_
                refine D.q 38 rfl (by kernel_rfl) (by kernel_rfl) (q_ldE (xs := k'.holds) ck_3 rfl isO (by repeat (first | exact List.Mem.head _ | apply List.Mem.tail)) hy rfl) (fun _ h => h.subD) ?_
                refine D.q 39 rfl (by kernel_rfl) (by kernel_rfl) (q_eqF rfl rfl (hp.1)) (fun _ h => h.subD) ?_
                refine D.q 40 rfl (by kernel_rfl) (by kernel_rfl) (q_pickF rfl rfl) (fun _ h => h.subD) ?_
                refine D.done (by kernel_rfl) ?_
                refine K.no rfl ?_
                refine K.skip <| K.inBlock ?_
                refine K.region ?_
                refine KO.q rfl (q_move rfl) ?_
                refine KO.q rfl (q_add rfl rfl (by first | omega | (simp; omega)) (by first | omega | (simp; omega))) ?_
                refine KO.q rfl (q_assign rfl) ?_
                refine KO.done ?_
                exact K.weak (by repeat (first | exact Env.sub_nil _ | refine Env.sub_cons rfl ?_)) (fun w h => h.fitD) (ih3 ⟨nb + 1, by omega⟩ (by show na - (nb + 1) < na - nb; omega))
            · refine D.skip 7 rfl (by kernel_rfl) (by kernel_rfl) (fun _ h => h.subD) ?_
              refine D.skip 8 rfl (by kernel_rfl) (by kernel_rfl) (fun _ h => h.subD) ?_
              refine D.skip 9 rfl (by kernel_rfl) (by kernel_rfl) (fun _ h => h.subD) ?_
              refine D.skip 10 rfl (by kernel_rfl) (by kernel_rfl) (fun _ h => h.subD) ?_
              refine D.skip 11 rfl (by kernel_rfl) (by kernel_rfl) (fun _ h => h.subD) ?_
              refine D.skip 12 rfl (by kernel_rfl) (by kernel_rfl) (fun _ h => h.subD) ?_
              refine D.q 13 rfl (by kernel_rfl) (by kernel_rfl) (q_pickF rfl rfl) (fun _ h => h.subD) ?_
              refine D.q 14 rfl (by kernel_rfl) (by kernel_rfl) (q_move rfl) (fun _ h => h.subD) ?_
              refine D.skip 15 rfl (by kernel_rfl) (by kernel_rfl) (fun _ h => h.subD) ?_
              refine D.skip 16 rfl (by kernel_rfl) (by kernel_rfl) (fun _ h => h.subD) ?_
              refine D.skip 17 rfl (by kernel_rfl) (by kernel_rfl) (fun _ h => h.subD) ?_
              refine D.skip 18 rfl (by kernel_rfl) (by kernel_rfl) (fun _ h => h.subD) ?_
              refine D.skip 19 rfl (by kernel_rfl) (by kernel_rfl) (fun _ h => h.subD) ?_
              refine D.skip 20 rfl (by kernel_rfl) (by kernel_rfl) (fun _ h => h.subD) ?_
              refine D.skip 21 rfl (by kernel_rfl) (by kernel_rfl) (fun _ h => h.subD) ?_
              refine D.skip 22 rfl (by kernel_rfl) (by kernel_rfl) (fun _ h => h.subD) ?_
              refine D.skip 23 rfl (by kernel_rfl) (by kernel_rfl) (fun _ h => h.subD) ?_
              refine D.skip 24 rfl (by kernel_rfl) (by kernel_rfl) (fun _ h => h.subD) ?_
              refine D.skip 25 rfl (by kernel_rfl) (by kernel_rfl) (fun _ h => h.subD) ?_
              refine D.skip 26 rfl (by kernel_rfl) (by kernel_rfl) (fun _ h => h.subD) ?_
              refine D.q 27 rfl (by kernel_rfl) (by kernel_rfl) (q_pickF rfl rfl) (fun _ h => h.subD) ?_
              refine D.q 28 rfl (by kernel_rfl) (by kernel_rfl) (q_move rfl) (fun _ h => h.subD) ?_
              refine D.q 29 rfl (by kernel_rfl) (by kernel_rfl) (q_move rfl) (fun _ h => h.subD) ?_
              refine D.q 30 rfl (by kernel_rfl) (by kernel_rfl) (q_move rfl) (fun _ h => h.subD) ?_
              refine D.q 31 rfl (by kernel_rfl) (by kernel_rfl) (q_ix (xs := k'.holds) na se_50 rfl rfl rfl isO (by repeat (first | exact List.Mem.head _ | apply List.Mem.tail)) rfl (by omega)) (fun _ h => h.subD) ?_
              refine D.q 32 rfl (by kernel_rfl) (by kernel_rfl) (q_fieldE fo_60_0 rfl) (fun _ h => h.subD) ?_
              refine D.q 33 rfl (by kernel_rfl) (by kernel_rfl) (q_ldE (xs := k'.holds) ck_3 rfl isO (by repeat (first | exact List.Mem.head _ | apply List.Mem.tail)) hx rfl) (fun _ h => h.subD) ?_
              refine D.q 34 rfl (by kernel_rfl) (by kernel_rfl) (q_move rfl) (fun _ h => h.subD) ?_
              refine D.q 35 rfl (by kernel_rfl) (by kernel_rfl) (q_move rfl) (fun _ h => h.subD) ?_
              refine D.q 36 rfl (by kernel_rfl) (by kernel_rfl) (q_ix (xs := k'.holds) nb se_50 rfl rfl rfl isO (by repeat (first | exact List.Mem.head _ | apply List.Mem.tail)) rfl (by omega)) (fun _ h => h.subD) ?_
              refine D.q 37 rfl (by kernel_rfl) (by kernel_rfl) (q_fieldE fo_60_0 rfl) (fun _ h => h.subD) ?_
              refine D.q 38 rfl (by kernel_rfl) (by kernel_rfl) (q_ldE (xs := k'.holds) ck_3 rfl isO (by repeat (first | exact List.Mem.head _ | apply List.Mem.tail)) hy rfl) (fun _ h => h.subD) ?_
              refine D.q 39 rfl (by kernel_rfl) (by kernel_rfl) (q_eqF rfl rfl (hp.1)) (fun _ h => h.subD) ?_
              refine D.q 40 rfl (by kernel_rfl) (by kernel_rfl) (q_pickF rfl rfl) (fun _ h => h.subD) ?_
              refine D.done (by kernel_rfl) ?_
              refine K.no rfl ?_
              refine K.skip <| K.inBlock ?_
              refine K.region ?_
              refine KO.q rfl (q_move rfl) ?_
              refine KO.q rfl (q_add rfl rfl (by first | omega | (simp; omega)) (by first | omega | (simp; omega))) ?_
              refine KO.q rfl (q_assign rfl) ?_
              refine KO.done ?_
              exact K.weak (by repeat (first | exact Env.sub_nil _ | refine Env.sub_cons rfl ?_)) (fun w h => h.fitD) (ih3 ⟨nb + 1, by omega⟩ (by show na - (nb + 1) < na - nb; omega))
          · refine K.exit rfl ?_
            refine K.seq ?_
            refine K.region ?_
            refine KO.q rfl (q_move rfl) ?_
            refine KO.q rfl (q_move rfl) ?_
            refine KO.q rfl (q_ix (xs := k'.holds) na se_50 rfl rfl rfl isO (by repeat (first | exact List.Mem.head _ | apply List.Mem.tail)) rfl (by omega)) ?_
            refine KO.q rfl (q_fieldE fo_60_2 rfl) ?_
            refine KO.q rfl (q_ldE (xs := k'.holds) ck_3 rfl isO (by repeat (first | exact List.Mem.head _ | apply List.Mem.tail)) hx rfl) ?_
            refine KO.q rfl (q_ne rfl rfl) ?_
            refine KO.q rfl (q_move rfl) ?_
            refine KO.dsplit 115 rfl (fun g115 => ?_) (fun g115 => ?_)
            · refine KO.q rfl (q_move rfl) ?_
              refine KO.q rfl (q_move rfl) ?_
              refine KO.q rfl (q_move rfl) ?_
              refine KO.q rfl (q_ix (xs := k'.holds) na se_50 rfl rfl rfl isO (by repeat (first | exact List.Mem.head _ | apply List.Mem.tail)) rfl (by omega)) ?_
              refine KO.q rfl (q_fieldE fo_60_0 rfl) ?_
              refine KO.q rfl (q_ldE (xs := k'.holds) ck_3 rfl isO (by repeat (first | exact List.Mem.head _ | apply List.Mem.tail)) hx rfl) ?_
              refine KO.loud rfl (OpL.callD rfl (h := lk_WaitsX b19 k' x.who (by omega))) ?_
              rintro _ _ ⟨_, ⟨p5, d5, rfl, rfl⟩, rfl⟩
              have hwt := Lk.holds_wants hkk (List.mem_of_getElem? hx) g115
              refine KO.q rfl (q_len Try.underlying36 rfl) ?_
              refine KO.q rfl (q_eqF rfl rfl (by omega)) ?_
              refine KO.q rfl (q_pickT rfl rfl) ?_
              refine KO.done ?_
              refine K.no rfl ?_
              refine K.skip <| K.inBlock ?_
              refine K.region ?_
              refine KO.q rfl (q_move rfl) ?_
              refine KO.q rfl (q_add rfl rfl (by first | omega | (simp; omega)) (by first | omega | (simp; omega))) ?_
              refine KO.q rfl (q_assign rfl) ?_
              refine KO.done ?_
              exact K.weak (by repeat (first | exact Env.sub_nil _ | refine Env.sub_cons rfl ?_)) (fun w h => h.fitD) (ih2 ⟨na + 1, by omega⟩ (by show k'.holds.length - (na + 1) < k'.holds.length - na; omega))
            · refine KO.skip rfl ?_
              refine KO.skip rfl ?_
              refine KO.skip rfl ?_
              refine KO.skip rfl ?_
              refine KO.skip rfl ?_
              refine KO.skip rfl ?_
              refine KO.skip rfl ?_
              refine KO.skip rfl ?_
              refine KO.skip rfl ?_
              refine KO.q rfl (q_pickF rfl rfl) ?_
              refine KO.done ?_
              refine K.no rfl ?_
              refine K.skip <| K.inBlock ?_
              refine K.region ?_
              refine KO.q rfl (q_move rfl) ?_
              refine KO.q rfl (q_add rfl rfl (by first | omega | (simp; omega)) (by first | omega | (simp; omega))) ?_
              refine KO.q rfl (q_assign rfl) ?_
              refine KO.done ?_
              exact K.weak (by repeat (first | exact Env.sub_nil _ | refine Env.sub_cons rfl ?_)) (fun w h => h.fitD) (ih2 ⟨na + 1, by omega⟩ (by show k'.holds.length - (na + 1) < k'.holds.length - na; omega))
        · refine K.exit rfl ?_
          refine K.inBlock ?_
          refine K.region ?_
          refine KO.q rfl (q_move rfl) ?_
          refine KO.q rfl (q_add rfl rfl (by first | omega | (simp; omega)) (by first | omega | (simp; omega))) ?_
          refine KO.q rfl (q_assign rfl) ?_
          refine KO.done ?_
          exact K.weak (by repeat (first | exact Env.sub_nil _ | refine Env.sub_cons rfl ?_)) (fun w h => h.fitD) (ih ⟨(i + 1, k'), by show i + 1 ≤ _; omega, hsk, hkk⟩ (by show l.length - (i + 1) < l.length - i; omega))
    · refine K.exit rfl ?_
      refine K.seq ?_
      refine K.region ?_
      refine KO.q rfl (q_assign rfl) ?_
      refine KO.done ?_
      refine K.ret (fn := Try.f9) Try.func9 (fun a w hk hs => res1 Try.results9 hk rfl) (fun w hs => ?_)
      exact ⟨_, [], rfl, ⟨rfl, rfl⟩, hs.fitD⟩
set_option maxHeartbeats 3200000 in
theorem law_GrantAgain (q : Option Addr) (cap : Nat) (l : List Act) (who m : Int) (hc : l.length ≤ cap) : Fn Try.prog 12 [.slice q l.length cap, .int .i64 who, .int .i64 m].toArray [RowF Kd.act q l] (fun r post => r = .bool true ∧ post = []) := by
  refine Fn.enter (N := 105) Try.func12 rfl Try.ntmps12 (by kernel_rfl) rfl (fun ρ L => ?_)
  refine K.seq ?_
  refine K.region ?_
  refine KO.q rfl (q_assign rfl) ?_
  refine KO.done ?_
  refine K.seq ?_
  refine K.region ?_
  refine KO.loud rfl (OpL.callD rfl (h := g_alive)) ?_
  rintro _ _ ⟨_, ⟨rfl, rfl⟩, rfl⟩
  refine KO.q rfl (q_assign rfl) ?_
  refine KO.done ?_
  refine K.seq <| K.seq ?_
  refine K.region ?_
  refine KO.q rfl (q_move rfl) ?_
  refine KO.q rfl (q_not rfl) ?_
  refine KO.q rfl (q_move rfl) ?_
  refine KO.q rfl (q_move rfl) ?_
  refine KO.q rfl (q_len Try.underlying44 rfl) ?_
  refine KO.q rfl (q_gt rfl rfl) ?_
  refine KO.q rfl (q_pickF rfl rfl) ?_
  refine KO.done ?_
  refine K.dcond (s := 19) rfl (fun g19 => ?_) (fun g19 => ?_)
  · refine K.seq ?_
    refine K.region ?_
    refine KO.q rfl (q_move rfl) ?_
    refine KO.q rfl (q_assign rfl) ?_
    refine KO.done ?_
    refine K.ret (fn := Try.f12) Try.func12 (fun a w hk hs => res1 Try.results12 hk rfl) (fun w hs => ?_)
    exact ⟨_, [], rfl, ⟨rfl, rfl⟩, hs.fitD⟩
  · refine K.skip <| K.seq ?_
    refine K.region ?_
    refine KO.q rfl (q_build st_48 rfl (by repeat (first | exact Fill.nil | (apply Fill.cons; rfl; rfl; rfl) | exact SetN.nil | apply SetN.cons | exact SetAt.here | apply SetAt.there))) ?_
    refine KO.loud rfl (l_box rfl rfl) ?_
    rintro _ _ ⟨b22, rfl, rfl⟩
    refine KO.q rfl (q_assign rfl) ?_
    refine KO.done ?_
    refine K.st (fun w h => lkX_new h) ?_
    refine K.seq <| K.seq ?_
    refine K.region ?_
    refine KO.q rfl (q_assign rfl) ?_
    refine KO.done ?_
    refine K.block ?_
    refine K.rounds2 (ι := { s : Nat × Lk // s.1 ≤ l.length ∧ s.2.size ≤ s.1 ∧ s.2.Inv }) (fun s => [(9, .int .i64 s.1.1), (0, .slice q l.length cap), (8, .pointer (some ⟨b22, 0, none⟩)), (1, .int .i64 who), (2, .int .i64 m)]) (fun s => [LkX b22 s.1.2, RowF Kd.act q l] ++ L) (fun s => l.length - s.1.1) ⟨(0, ⟨[], []⟩), Nat.zero_le _, Nat.le_refl _, Lk.inv_nil⟩ (by repeat (first | exact Env.sub_nil _ | refine Env.sub_cons rfl ?_)) (fun w h => h.fitD) (fun s ih => ?_)
    obtain ⟨⟨i, kx⟩, hi, hsx, hinv⟩ := s
    dsimp only at hi hsx hinv ⊢
    refine K.seq <| K.seq ?_
    refine K.region ?_
    refine KO.q rfl (q_move rfl) ?_
    refine KO.q rfl (q_move rfl) ?_
    refine KO.q rfl (q_len Try.underlying44 rfl) ?_
    refine KO.q rfl (q_lt rfl rfl) ?_
    refine KO.done ?_
    refine K.dcond (s := 26) rfl (fun g26 => ?_) (fun g26 => ?_)
    · obtain ⟨a, ha⟩ : ∃ a, l[i]? = some a := ⟨_, List.getElem?_eq_getElem (by omega)⟩
      refine K.skip <| K.seq <| K.block <| K.seq ?_
      refine K.region ?_
      refine KO.q rfl (q_move rfl) ?_
      refine KO.q rfl (q_move rfl) ?_
      refine KO.q rfl (q_ix i se_44 rfl rfl rfl isF (by repeat (first | exact List.Mem.head _ | apply List.Mem.tail)) rfl (by omega)) ?_
      refine KO.q rfl (q_fieldE fo_54_0 rfl) ?_
      refine KO.q rfl (q_ldE ck_3 rfl isF (by repeat (first | exact List.Mem.head _ | apply List.Mem.tail)) ha rfl) ?_
      refine KO.q rfl (q_eq rfl rfl) ?_
      refine KO.done ?_
      refine K.dcond (s := 34) rfl (fun g34 => ?_) (fun g34 => ?_)
      · refine K.region ?_
        refine KO.q rfl (q_move rfl) ?_
        refine KO.q rfl (q_move rfl) ?_
        refine KO.q rfl (q_move rfl) ?_
        refine KO.q rfl (q_ix i se_44 rfl rfl rfl isF (by repeat (first | exact List.Mem.head _ | apply List.Mem.tail)) rfl (by omega)) ?_
        refine KO.q rfl (q_fieldE fo_54_1 rfl) ?_
        refine KO.q rfl (q_ldE ck_3 rfl isF (by repeat (first | exact List.Mem.head _ | apply List.Mem.tail)) ha rfl) ?_
        refine KO.loud rfl (OpL.callD rfl (h := lk_DropI b22 kx _ hinv (by omega))) ?_
        rintro _ _ ⟨_, ⟨k', np, po, co, hkk, hsk, rfl, rfl⟩, rfl⟩
        have hsk : k'.size ≤ i + 1 := by omega
        refine KO.done ?_
        refine K.inBlock ?_
        refine K.region ?_
        refine KO.q rfl (q_move rfl) ?_
        refine KO.q rfl (q_add rfl rfl (by first | omega | (simp; omega)) (by first | omega | (simp; omega))) ?_
        refine KO.q rfl (q_assign rfl) ?_
        refine KO.done ?_
        exact K.weak (by repeat (first | exact Env.sub_nil _ | refine Env.sub_cons rfl ?_)) (fun w h => h.fitD) (ih ⟨(i + 1, k'), by show i + 1 ≤ _; omega, hsk, hkk⟩ (by show l.length - (i + 1) < l.length - i; omega))
      · refine K.drawU (by repeat (first | apply SubL.pers | apply SubL.drop | exact SubL.none)) mixed ?_
        refine D.q 0 rfl (by kernel_rfl) (by kernel_rfl) (q_move rfl) (fun _ h => h.subD) ?_
        refine D.q 1 rfl (by kernel_rfl) (by kernel_rfl) (q_move rfl) (fun _ h => h.subD) ?_
        refine D.q 2 rfl (by kernel_rfl) (by kernel_rfl) (q_move rfl) (fun _ h => h.subD) ?_
        refine D.q 3 rfl (by kernel_rfl) (by kernel_rfl) (q_ix i se_44 rfl rfl rfl isF (by repeat (first | exact List.Mem.head _ | apply List.Mem.tail)) rfl (by omega)) (fun _ h => h.subD) ?_
        refine D.q 4 rfl (by kernel_rfl) (by kernel_rfl) (q_fieldE fo_54_1 rfl) (fun _ h => h.subD) ?_
        refine D.q 5 rfl (by kernel_rfl) (by kernel_rfl) (q_ldE ck_3 rfl isF (by repeat (first | exact List.Mem.head _ | apply List.Mem.tail)) ha rfl) (fun _ h => h.subD) ?_
        refine D.q 6 rfl (by kernel_rfl) (by kernel_rfl) (q_move rfl) (fun _ h => h.subD) ?_
        refine D.q 7 rfl (by kernel_rfl) (by kernel_rfl) (q_move rfl) (fun _ h => h.subD) ?_
        refine D.q 8 rfl (by kernel_rfl) (by kernel_rfl) (q_ix i se_44 rfl rfl rfl isF (by repeat (first | exact List.Mem.head _ | apply List.Mem.tail)) rfl (by omega)) (fun _ h => h.subD) ?_
        refine D.q 9 rfl (by kernel_rfl) (by kernel_rfl) (q_fieldE fo_54_2 rfl) (fun _ h => h.subD) ?_
        refine D.q 10 rfl (by kernel_rfl) (by kernel_rfl) (q_ldE ck_3 rfl isF (by repeat (first | exact List.Mem.head _ | apply List.Mem.tail)) ha rfl) (fun _ h => h.subD) ?_
        refine D.all (rs := [11]) (by kernel_rfl) rfl (DAll.cons rfl (by kernel_rfl) (OpL.callD rfl (h := lk_AskI b22 kx _ _ hinv (by omega))) (.inr (by rintro _ _ ⟨_, ⟨k', tp, hkk, hsk, rfl, rfl⟩, rfl⟩ w h; exact h.subD)) rfl ?_ DAll.nil)
        rintro _ _ ⟨_, ⟨k', tp, hkk, hsk, rfl, rfl⟩, rfl⟩
        have hsk : k'.size ≤ i + 1 := by omega
        refine D.done (by kernel_rfl) ?_
        refine K.inBlock ?_
        refine K.region ?_
        refine KO.q rfl (q_move rfl) ?_
        refine KO.q rfl (q_add rfl rfl (by first | omega | (simp; omega)) (by first | omega | (simp; omega))) ?_
        refine KO.q rfl (q_assign rfl) ?_
        refine KO.done ?_
        exact K.weak (by repeat (first | exact Env.sub_nil _ | refine Env.sub_cons rfl ?_)) (fun w h => h.fitD) (ih ⟨(i + 1, k'), by show i + 1 ≤ _; omega, hsk, hkk⟩ (by show l.length - (i + 1) < l.length - i; omega))
    · refine K.exit rfl ?_
      refine K.seq ?_
      refine K.region ?_
      refine KO.q rfl (q_move rfl) ?_
      refine KO.loud rfl (OpL.callD rfl (h := lk_HoldsX b22 kx (by omega))) ?_
      rintro _ _ ⟨_, ⟨p3, d3, rfl, rfl⟩, rfl⟩
      have hol := kx.holds_len
      refine KO.q rfl (q_assign rfl) ?_
      refine KO.done ?_
      refine K.seq <| K.seq ?_
      refine K.region ?_
      refine KO.q rfl (q_assign rfl) ?_
      refine KO.done ?_
      refine K.block ?_
      refine K.rounds2 (ι := { s : Nat // s ≤ kx.holds.length }) (fun s => [(11, .int .i64 s.1), (10, .slice p3 kx.holds.length d3), (8, .pointer (some ⟨b22, 0, none⟩)), (1, .int .i64 who), (2, .int .i64 m)]) (fun s => [RowO Kd.hold 60 p3 d3 kx.holds, LkX b22 kx] ++ L) (fun s => kx.holds.length - s.1) ⟨0, Nat.zero_le _⟩ (by repeat (first | exact Env.sub_nil _ | refine Env.sub_cons rfl ?_)) (fun w h => h.fitD) (fun s ih2 => ?_)
      obtain ⟨na, hna⟩ := s
      dsimp only at hna ⊢
      refine K.seq <| K.seq ?_
      refine K.region ?_
      refine KO.q rfl (q_move rfl) ?_
      refine KO.q rfl (q_move rfl) ?_
      refine KO.q rfl (q_len Try.underlying50 rfl) ?_
      refine KO.q rfl (q_lt rfl rfl) ?_
      refine KO.done ?_
      refine K.dcond (s := 59) rfl (fun g59 => ?_) (fun g59 => ?_)
      · obtain ⟨x, hx⟩ : ∃ x, kx.holds[na]? = some x := ⟨_, List.getElem?_eq_getElem (by omega)⟩
        refine K.skip <| K.seq <| K.block <| K.seq ?_
        refine K.region ?_
        refine KO.q rfl (q_move rfl) ?_
        refine KO.q rfl (q_move rfl) ?_
        refine KO.q rfl (q_ix (xs := kx.holds) na se_50 rfl rfl rfl isO (by repeat (first | exact List.Mem.head _ | apply List.Mem.tail)) rfl (by omega)) ?_
        refine KO.q rfl (q_fieldE fo_60_0 rfl) ?_
        refine KO.q rfl (q_ldE (xs := kx.holds) ck_3 rfl isO (by repeat (first | exact List.Mem.head _ | apply List.Mem.tail)) hx rfl) ?_
        refine KO.q rfl (q_move rfl) ?_
        refine KO.q rfl (q_eq rfl rfl) ?_
        refine KO.q rfl (q_move rfl) ?_
        refine KO.dsplit 69 rfl (fun g69 => ?_) (fun g69 => ?_)
        · refine KO.q rfl (q_move rfl) ?_
          refine KO.q rfl (q_move rfl) ?_
          refine KO.q rfl (q_ix (xs := kx.holds) na se_50 rfl rfl rfl isO (by repeat (first | exact List.Mem.head _ | apply List.Mem.tail)) rfl (by omega)) ?_
          refine KO.q rfl (q_fieldE fo_60_2 rfl) ?_
          refine KO.q rfl (q_ldE (xs := kx.holds) ck_3 rfl isO (by repeat (first | exact List.Mem.head _ | apply List.Mem.tail)) hx rfl) ?_
          refine KO.q rfl (q_eq rfl rfl) ?_
          refine KO.q rfl (q_pickT rfl rfl) ?_
          refine KO.q rfl (q_move rfl) ?_
          refine KO.dsplit 77 rfl (fun g77 => ?_) (fun g77 => ?_)
          · refine KO.q rfl (q_move rfl) ?_
            refine KO.q rfl (q_move rfl) ?_
            refine KO.q rfl (q_ix (xs := kx.holds) na se_50 rfl rfl rfl isO (by repeat (first | exact List.Mem.head _ | apply List.Mem.tail)) rfl (by omega)) ?_
            refine KO.q rfl (q_fieldE fo_60_1 rfl) ?_
            refine KO.q rfl (q_ldE (xs := kx.holds) ck_3 rfl isO (by repeat (first | exact List.Mem.head _ | apply List.Mem.tail)) hx rfl) ?_
            refine KO.q rfl (q_move rfl) ?_
            refine KO.loud rfl (OpL.callD rfl (h := rm_Covers _ _)) ?_
            rintro _ _ ⟨_, ⟨rfl, rfl⟩, rfl⟩
            refine KO.q rfl (q_pickT rfl rfl) ?_
            refine KO.done ?_
            refine K.bcond (s := 85) rfl (fun g85 => ?_) (fun g85 => ?_)
            · have hag : kx.ask who m = (true, kx) := by rw [← (show x.who = who from g69)]; exact Lk.ask_again hinv (List.mem_of_getElem? hx) (by assumption) g85
              refine K.seq ?_
              refine K.region ?_
              refine KO.q rfl (q_move rfl) ?_
              refine KO.q rfl (q_move rfl) ?_
              refine KO.q rfl (q_move rfl) ?_
              refine KO.loud rfl (OpL.callD rfl (h := lk_AskX b22 kx who m (by omega))) ?_
              rintro _ _ ⟨_, ⟨rfl, rfl⟩, rfl⟩
              rw [hag]
              refine KO.q rfl (q_move rfl) ?_
              refine KO.q rfl (q_move rfl) ?_
              refine KO.loud rfl (OpL.callD rfl (h := lk_HoldsX b22 kx (by omega))) ?_
              rintro _ _ ⟨_, ⟨p4, d4, rfl, rfl⟩, rfl⟩
              refine KO.q rfl (q_move rfl) ?_
              refine KO.loud rfl (OpL.callD rfl (h := rf_SameHolds (RowO Kd.hold 60 p4 d4 _) (RowO Kd.hold 60 p3 d3 _) p4 p3 d4 d3 kx.holds kx.holds isO isO (by omega) (by omega))) ?_
              rintro _ _ ⟨_, ⟨rfl, rfl⟩, rfl⟩
              rw [decide_eq_true rfl]
              refine KO.q rfl (q_pickT rfl rfl) ?_
              refine KO.q rfl (q_assign rfl) ?_
              refine KO.done ?_
              refine K.ret (fn := Try.f12) Try.func12 (fun a w hk hs => res1 Try.results12 hk rfl) (fun w hs => ?_)
              exact ⟨_, [], rfl, ⟨rfl, rfl⟩, hs.fitD⟩
            · refine K.skip <| K.inBlock ?_
              refine K.region ?_
              refine KO.q rfl (q_move rfl) ?_
              refine KO.q rfl (q_add rfl rfl (by first | omega | (simp; omega)) (by first | omega | (simp; omega))) ?_
              refine KO.q rfl (q_assign rfl) ?_
              refine KO.done ?_
              exact K.weak (by repeat (first | exact Env.sub_nil _ | refine Env.sub_cons rfl ?_)) (fun w h => h.fitD) (ih2 ⟨na + 1, by omega⟩ (by show kx.holds.length - (na + 1) < kx.holds.length - na; omega))
          · refine KO.skip rfl ?_
            refine KO.skip rfl ?_
            refine KO.skip rfl ?_
            refine KO.skip rfl ?_
            refine KO.skip rfl ?_
            refine KO.skip rfl ?_
            refine KO.skip rfl ?_
            refine KO.q rfl (q_pickF rfl rfl) ?_
            refine KO.done ?_
            refine K.no rfl ?_
            refine K.skip <| K.inBlock ?_
            refine K.region ?_
            refine KO.q rfl (q_move rfl) ?_
            refine KO.q rfl (q_add rfl rfl (by first | omega | (simp; omega)) (by first | omega | (simp; omega))) ?_
            refine KO.q rfl (q_assign rfl) ?_
            refine KO.done ?_
            exact K.weak (by repeat (first | exact Env.sub_nil _ | refine Env.sub_cons rfl ?_)) (fun w h => h.fitD) (ih2 ⟨na + 1, by omega⟩ (by show kx.holds.length - (na + 1) < kx.holds.length - na; omega))
        · refine KO.skip rfl ?_
          refine KO.skip rfl ?_
          refine KO.skip rfl ?_
          refine KO.skip rfl ?_
          refine KO.skip rfl ?_
          refine KO.skip rfl ?_
          refine KO.q rfl (q_pickF rfl rfl) ?_
          refine KO.q rfl (q_move rfl) ?_
          refine KO.skip rfl ?_
          refine KO.skip rfl ?_
          refine KO.skip rfl ?_
          refine KO.skip rfl ?_
          refine KO.skip rfl ?_
          refine KO.skip rfl ?_
          refine KO.skip rfl ?_
          refine KO.q rfl (q_pickF rfl rfl) ?_
          refine KO.done ?_
          refine K.no rfl ?_
          refine K.skip <| K.inBlock ?_
          refine K.region ?_
          refine KO.q rfl (q_move rfl) ?_
          refine KO.q rfl (q_add rfl rfl (by first | omega | (simp; omega)) (by first | omega | (simp; omega))) ?_
          refine KO.q rfl (q_assign rfl) ?_
          refine KO.done ?_
          exact K.weak (by repeat (first | exact Env.sub_nil _ | refine Env.sub_cons rfl ?_)) (fun w h => h.fitD) (ih2 ⟨na + 1, by omega⟩ (by show kx.holds.length - (na + 1) < kx.holds.length - na; omega))
      · refine K.exit rfl ?_
        refine K.seq ?_
        refine K.region ?_
        refine KO.q rfl (q_move rfl) ?_
        refine KO.q rfl (q_move rfl) ?_
        refine KO.loud rfl (OpL.callD rfl (h := lk_AskX b22 kx who 0 (by omega))) ?_
        rintro _ _ ⟨_, ⟨rfl, rfl⟩, rfl⟩
        rw [Lk.ask_none]
        refine KO.q rfl (q_move rfl) ?_
        refine KO.q rfl (q_move rfl) ?_
        refine KO.loud rfl (OpL.callD rfl (h := lk_HoldsX b22 kx (by omega))) ?_
        rintro _ _ ⟨_, ⟨p4, d4, rfl, rfl⟩, rfl⟩
        refine KO.q rfl (q_move rfl) ?_
        refine KO.loud rfl (OpL.callD rfl (h := rf_SameHolds (RowO Kd.hold 60 p4 d4 _) (RowO Kd.hold 60 p3 d3 _) p4 p3 d4 d3 kx.holds kx.holds isO isO (by omega) (by omega))) ?_
        rintro _ _ ⟨_, ⟨rfl, rfl⟩, rfl⟩
        rw [decide_eq_true rfl]
        refine KO.q rfl (q_pickT rfl rfl) ?_
        refine KO.q rfl (q_assign rfl) ?_
        refine KO.done ?_
        refine K.ret (fn := Try.f12) Try.func12 (fun a w hk hs => res1 Try.results12 hk rfl) (fun w hs => ?_)
        exact ⟨_, [], rfl, ⟨rfl, rfl⟩, hs.fitD⟩
end Go.Proofs.Ytfpkeanimkgpaaa.L
