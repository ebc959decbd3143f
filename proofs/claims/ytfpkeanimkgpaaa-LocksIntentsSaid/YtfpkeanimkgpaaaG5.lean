/- Walks: the library's Delete on a lock's lists. -/
import Derived.Test.YtfpkeanimkgpaaaG4
import Derived.Test.YtfpkeanimkgpaaaLG
namespace Go.Proofs.Ytfpkeanimkgpaaa.L
open Go Go.Proofs
attribute [local irreducible] pv fv pt fz RowF RowO rowP old pure_ elA
set_option maxRecDepth 100000
set_option linter.unusedSimpArgs false
set_option linter.unusedVariables false

set_option maxHeartbeats 800000 in
theorem del_one (q : Option Addr) (cap : Nat) (l : List One) (i : Nat) (hi : i < l.length) (hc : l.length ≤ cap) (hb : l.length ≤ 1000000000000) : Fn Try.prog 66 [.slice q l.length cap, .int .i64 i, .int .i64 ((i : Int) + 1)].toArray [RowO Kd.one1 94 q cap l]
    (fun r post => r = .slice q (l.length - 1) cap ∧ post = [RowO Kd.one1 94 q cap (l.take i ++ l.drop (i + 1))]) := by
  refine Fn.enter (N := 33) Try.func66 rfl Try.ntmps66 (by kernel_rfl) rfl (fun ρ L => ?_)
  refine K.seq ?_
  refine K.region ?_
  refine KO.q rfl (q_assign rfl) ?_
  refine KO.done ?_
  refine K.seq ?_
  refine K.region ?_
  refine KO.q rfl (q_move rfl) ?_
  refine KO.q rfl (q_move rfl) ?_
  refine KO.q rfl (q_move rfl) ?_
  refine KO.q rfl (q_move rfl) ?_
  refine KO.q rfl (q_len Try.underlying46 rfl) ?_
  refine KO.q rfl (q_cut3 se_46 rfl rfl rfl rfl (by omega) (by omega) (by omega) (by omega)) ?_
  refine KO.done ?_
  refine K.seq <| K.seq ?_
  refine K.region ?_
  refine KO.q rfl (q_move rfl) ?_
  refine KO.q rfl (q_move rfl) ?_
  refine KO.q rfl (q_eq rfl rfl) ?_
  refine KO.done ?_
  refine K.dcond (s := 16) rfl (fun g16 => ?_) (fun g16 => ?_)
  · exact absurd g16 (by omega)
  · refine K.skip <| K.seq ?_
    refine K.region ?_
    refine KO.q rfl (q_move rfl) ?_
    refine KO.q rfl (q_len Try.underlying46 rfl) ?_
    refine KO.q rfl (q_assign rfl) ?_
    refine KO.done ?_
    refine K.seq ?_
    refine K.draw [] mixed ?_
    refine D.q 0 rfl (by kernel_rfl) (by kernel_rfl) (q_move rfl) (fun _ h => h.nil) ?_
    refine D.q 1 rfl (by kernel_rfl) (by kernel_rfl) (q_move rfl) (fun _ h => h.nil) ?_
    refine D.q 2 rfl (by kernel_rfl) (by kernel_rfl) (q_cutH se_46 rfl rfl (by first | omega | (simp; omega)) (by first | omega | (simp; omega))) (fun _ h => h.nil) ?_
    refine D.q 3 rfl (by kernel_rfl) (by kernel_rfl) (q_move rfl) (fun _ h => h.nil) ?_
    refine D.q 4 rfl (by kernel_rfl) (by kernel_rfl) (q_move rfl) (fun _ h => h.nil) ?_
    refine D.q 5 rfl (by kernel_rfl) (by kernel_rfl) (q_cutL se_46 rfl rfl (by first | omega | (simp; omega)) (by first | omega | (simp; omega)) (by first | omega | (simp; omega))) (fun _ h => h.nil) ?_
    refine D.all (rs := [6]) (by kernel_rfl) rfl (DAll.cons rfl (by kernel_rfl) (l_appendIn (i := i) (s0 := i + 1) (m := l.length - (i + 1)) Kd.one1 se_46 Try.underlying46 rfl rfl (by repeat (first | exact Pick.here | apply Pick.there)) (by omega) (by omega) (by omega) (by omega)) (.inr (fun _ _ _ _ h => h.nil)) rfl ?_ DAll.nil)
    rintro _ _ ⟨rfl, rfl⟩
    refine D.q 7 rfl (by kernel_rfl) (by kernel_rfl) (q_assign rfl) (fun _ h => h.nil) ?_
    refine D.done (by kernel_rfl) ?_
    rw [show i + (l.length - (i + 1)) = l.length - 1 by omega, List.take_of_length_le (l := l.drop (i + 1)) (by rw [List.length_drop]; omega)]
    refine K.seq ?_
    refine K.region ?_
    refine KO.q rfl (q_move rfl) ?_
    refine KO.q rfl (q_move rfl) ?_
    refine KO.q rfl (q_len Try.underlying46 rfl) ?_
    refine KO.q rfl (q_move rfl) ?_
    refine KO.q rfl (q_cutB se_46 rfl rfl rfl (by first | omega | (simp; omega)) (by first | omega | (simp; omega)) (by first | omega | (simp; omega))) ?_
    refine KO.loudN rfl (l_clearS (i := l.length - 1) Kd.one1 se_46 ze_94 rfl (by simp [Value.oneCell']) (by decide) rfl (by repeat (first | exact Pick.here | apply Pick.there)) (by rw [List.length_append, List.length_take, List.length_drop]; omega) (by omega) (by simp only [Int.toNat_natCast]; omega)) ?_
    rintro _ _ ⟨rfl, rfl⟩
    refine KO.done ?_
    refine K.seq ?_
    refine K.region ?_
    refine KO.q rfl (q_move rfl) ?_
    refine KO.q rfl (q_assign rfl) ?_
    refine KO.done ?_
    refine K.ret (fn := Try.f66) Try.func66 (fun a w hk hs => res1 Try.results66 hk rfl) (fun w hs => ?_)
    exact ⟨_, [RowO Kd.one1 94 q cap (l.take i ++ l.drop (i + 1))], rfl, ⟨rfl, rfl⟩, hs.fitD⟩
end Go.Proofs.Ytfpkeanimkgpaaa.L
