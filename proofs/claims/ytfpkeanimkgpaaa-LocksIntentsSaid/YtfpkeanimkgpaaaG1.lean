/- Walks: modes. -/
import Derived.Test.YtfpkeanimkgpaaaTab
import Derived.Test.YtfpkeanimkgpaaaPK
namespace Go.Proofs.Ytfpkeanimkgpaaa.L
open Go Go.Proofs
attribute [local irreducible] pv fv pt fz RowF RowO rowP old pure_ elA
set_option maxRecDepth 100000
set_option linter.unusedSimpArgs false
set_option linter.unusedVariables false

--%kd int (Kd.int .i64)
/-- Any number as a mode. -/
def modeOf (m : Int) : Int := if m < 0 ∨ 5 < m then 5 else m
theorem modeOf_rng (m : Int) : 0 ≤ modeOf m ∧ modeOf m ≤ 5 := by unfold modeOf; split <;> omega
--%call poste/modes.Of := md_Of _
theorem md_Of (m : Int) : Fn Try.prog 44 [.int .i64 m].toArray [] (fun r post => r = .int .i64 (modeOf m) ∧ post = []) := by
  refine Fn.enter (N := 10) Try.func44 rfl Try.ntmps44 (by kernel_rfl) rfl (fun ρ L => ?_)
  refine K.seq ?_
  refine K.region ?_
  refine KO.q rfl (q_assign rfl) ?_
  refine KO.done ?_
  refine K.seq <| K.seq ?_
  refine K.region ?_
  refine KO.q rfl (q_move rfl) ?_
  refine KO.q rfl (q_lt rfl rfl) ?_
  refine KO.q rfl (q_move rfl) ?_
  refine KO.dsplit 5 rfl (fun g5 => ?_) (fun g5 => ?_)
  · refine KO.skip rfl ?_
    refine KO.skip rfl ?_
    refine KO.q rfl (q_pickT rfl rfl) ?_
    refine KO.done ?_
    refine K.yes rfl ?_
    refine K.seq ?_
    refine K.region ?_
    refine KO.q rfl (q_assign rfl) ?_
    refine KO.done ?_
    refine K.ret (fn := Try.f44) Try.func44 (fun a w hk hs => res1 Try.results44 hk rfl) (fun w hs => ?_)
    exact ⟨_, [], rfl, ⟨by refine congrArg (Value.int .i64) ?_; unfold modeOf; split <;> omega, rfl⟩, hs.fitD⟩
  · refine KO.q rfl (q_move rfl) ?_
    refine KO.q rfl (q_gt rfl rfl) ?_
    refine KO.q rfl (q_pickF rfl rfl) ?_
    refine KO.done ?_
    refine K.dcond (s := 8) rfl (fun g8 => ?_) (fun g8 => ?_)
    · refine K.seq ?_
      refine K.region ?_
      refine KO.q rfl (q_assign rfl) ?_
      refine KO.done ?_
      refine K.ret (fn := Try.f44) Try.func44 (fun a w hk hs => res1 Try.results44 hk rfl) (fun w hs => ?_)
      exact ⟨_, [], rfl, ⟨by refine congrArg (Value.int .i64) ?_; unfold modeOf; split <;> omega, rfl⟩, hs.fitD⟩
    · refine K.skip <| K.seq ?_
      refine K.region ?_
      refine KO.q rfl (q_move rfl) ?_
      refine KO.q rfl (q_assign rfl) ?_
      refine KO.done ?_
      refine K.ret (fn := Try.f44) Try.func44 (fun a w hk hs => res1 Try.results44 hk rfl) (fun w hs => ?_)
      exact ⟨_, [], rfl, ⟨by refine congrArg (Value.int .i64) ?_; unfold modeOf; split <;> omega, rfl⟩, hs.fitD⟩
--%call poste/posteref10.mode := rm_mode _
theorem rm_mode (m : Int) : Fn Try.prog 60 [.int .i64 m].toArray [] (fun r post => r = .int .i64 (modeOf m) ∧ post = []) := by
  refine Fn.enter (N := 10) Try.func60 rfl Try.ntmps60 (by kernel_rfl) rfl (fun ρ L => ?_)
  refine K.seq ?_
  refine K.region ?_
  refine KO.q rfl (q_assign rfl) ?_
  refine KO.done ?_
  refine K.seq <| K.seq ?_
  refine K.region ?_
  refine KO.q rfl (q_move rfl) ?_
  refine KO.q rfl (q_lt rfl rfl) ?_
  refine KO.q rfl (q_move rfl) ?_
  refine KO.dsplit 5 rfl (fun g5 => ?_) (fun g5 => ?_)
  · refine KO.skip rfl ?_
    refine KO.skip rfl ?_
    refine KO.q rfl (q_pickT rfl rfl) ?_
    refine KO.done ?_
    refine K.yes rfl ?_
    refine K.seq ?_
    refine K.region ?_
    refine KO.q rfl (q_assign rfl) ?_
    refine KO.done ?_
    refine K.ret (fn := Try.f60) Try.func60 (fun a w hk hs => res1 Try.results60 hk rfl) (fun w hs => ?_)
    exact ⟨_, [], rfl, ⟨by refine congrArg (Value.int .i64) ?_; unfold modeOf; split <;> omega, rfl⟩, hs.fitD⟩
  · refine KO.q rfl (q_move rfl) ?_
    refine KO.q rfl (q_gt rfl rfl) ?_
    refine KO.q rfl (q_pickF rfl rfl) ?_
    refine KO.done ?_
    refine K.dcond (s := 8) rfl (fun g8 => ?_) (fun g8 => ?_)
    · refine K.seq ?_
      refine K.region ?_
      refine KO.q rfl (q_assign rfl) ?_
      refine KO.done ?_
      refine K.ret (fn := Try.f60) Try.func60 (fun a w hk hs => res1 Try.results60 hk rfl) (fun w hs => ?_)
      exact ⟨_, [], rfl, ⟨by refine congrArg (Value.int .i64) ?_; unfold modeOf; split <;> omega, rfl⟩, hs.fitD⟩
    · refine K.skip <| K.seq ?_
      refine K.region ?_
      refine KO.q rfl (q_move rfl) ?_
      refine KO.q rfl (q_assign rfl) ?_
      refine KO.done ?_
      refine K.ret (fn := Try.f60) Try.func60 (fun a w hk hs => res1 Try.results60 hk rfl) (fun w hs => ?_)
      exact ⟨_, [], rfl, ⟨by refine congrArg (Value.int .i64) ?_; unfold modeOf; split <;> omega, rfl⟩, hs.fitD⟩
def orU (a b : Int) : Int := IntKind.u8.wrap ((BitVec.ofInt IntKind.u8.bits a ||| BitVec.ofInt IntKind.u8.bits b).toNat)
def bitU (m : Int) : Int := IntKind.u8.wrap (1 * 2 ^ (min m.toNat IntKind.u8.bits))
/-- Modes as a set of bits. -/
def setV (xs : List Int) : Int := xs.foldl (fun a m => orU a (bitU m)) 0
theorem setV_succ {xs : List Int} {i : Nat} {m : Int} (h : xs[i]? = some m) : orU (setV (xs.take i)) (bitU m) = setV (xs.take (i + 1)) := by
  unfold setV
  rw [List.take_add_one, h, List.foldl_append]
  rfl
theorem md_set (q : Option Addr) (cap : Nat) (xs : List Int) (hl : (xs.length : Int) ≤ 9223372036854775807) (hm : ∀ m ∈ xs, 0 ≤ m) : Fn Try.prog 112 [.slice q xs.length cap].toArray [RowF (Kd.int .i64) q xs] (fun r post => r = .int .u8 (setV xs) ∧ post = []) := by
  refine Fn.enter (N := 18) Try.func112 rfl Try.ntmps112 (by kernel_rfl) rfl (fun ρ L => ?_)
  refine K.seq ?_
  refine K.region ?_
  refine KO.q rfl (q_assign rfl) ?_
  refine KO.done ?_
  refine K.seq ?_
  refine K.region ?_
  refine KO.q rfl (q_assign rfl) ?_
  refine KO.done ?_
  refine K.seq <| K.seq ?_
  refine K.region ?_
  refine KO.q rfl (q_move rfl) ?_
  refine KO.q rfl (q_len Try.underlying36 rfl) ?_
  refine KO.q rfl (q_move rfl) ?_
  refine KO.done ?_
  refine K.block ?_
  refine K.rloop (ι := { i : Nat // i ≤ xs.length }) (fun x => [(8, .int .i64 x.1), (7, .int .i64 xs.length), (6, .slice q xs.length cap), (3, .int .u8 (setV (xs.take x.1)))]) (fun x => xs.length - x.1) ⟨0, Nat.zero_le _⟩ (by repeat (first | exact Env.sub_nil _ | refine Env.sub_cons rfl ?_)) (fun x ih => ?_)
  obtain ⟨i, hi⟩ := x
  dsimp only at hi ⊢
  refine K.seq ?_
  refine K.region ?_
  refine KO.q rfl (q_lt rfl rfl) ?_
  refine KO.done ?_
  refine K.seq ?_
  refine K.dcond (s := 9) rfl (fun g9 => ?_) (fun g9 => ?_)
  · obtain ⟨e, he⟩ : ∃ e, xs[i]? = some e := ⟨_, List.getElem?_eq_getElem (by omega)⟩
    have he0 := hm e (List.mem_of_getElem? he)
    refine K.skip <| K.seq <| K.block <| K.seq ?_
    refine K.region ?_
    first | refine KO.q rfl (q_ix _ se_36 rfl rfl rfl isF (by repeat (first | exact List.Mem.head _ | apply List.Mem.tail)) rfl (by first | assumption | omega | exact (List.getElem?_eq_some_iff.1 (by assumption)).1 | (simp; omega))) ?_ | refine KO.q rfl (q_ix _ se_36 rfl rfl rfl isO (by repeat (first | exact List.Mem.head _ | apply List.Mem.tail)) rfl (by first | assumption | omega | exact (List.getElem?_eq_some_iff.1 (by assumption)).1 | (simp; omega))) ?_
    first | refine KO.q rfl (q_ldE ck_3 rfl isF (by repeat (first | exact List.Mem.head _ | apply List.Mem.tail)) (by first | assumption | exact List.getElem?_eq_getElem (by first | assumption | omega | (simp; omega))) rfl) ?_ | refine KO.q rfl (q_ldE ck_3 rfl isO (by repeat (first | exact List.Mem.head _ | apply List.Mem.tail)) (by first | assumption | exact List.getElem?_eq_getElem (by first | assumption | omega | (simp; omega))) rfl) ?_
    refine KO.q rfl (q_assign rfl) ?_
    refine KO.done ?_
    refine K.region ?_
    refine KO.q rfl (q_move rfl) ?_
    refine KO.q rfl (q_move rfl) ?_
    refine KO.q rfl (q_shl rfl rfl (by first | omega | (simp; omega))) ?_
    refine KO.q rfl (q_or rfl rfl) ?_
    refine KO.q rfl (q_assign rfl) ?_
    refine KO.done ?_
    refine K.inBlock ?_
    refine K.region ?_
    refine KO.q rfl (q_add rfl rfl (by first | omega | (simp; omega)) (by first | omega | (simp; omega))) ?_
    refine KO.q rfl (q_move rfl) ?_
    refine KO.done ?_
    refine K.subE (Env.sub_cons rfl (Env.sub_cons rfl (Env.sub_cons rfl (Env.sub_cons ?_ (Env.sub_nil _))))) (ih ⟨i + 1, by omega⟩ (by show xs.length - (i + 1) < xs.length - i; omega))
    show _ = some (Value.int .u8 (setV (xs.take (i + 1))))
    rw [← setV_succ he]
    rfl
  · obtain rfl : i = xs.length := by omega
    rw [List.take_length]
    refine K.exit rfl ?_
    refine K.seq ?_
    refine K.region ?_
    refine KO.q rfl (q_move rfl) ?_
    refine KO.q rfl (q_assign rfl) ?_
    refine KO.done ?_
    refine K.ret (fn := Try.f112) Try.func112 (fun a w hk hs => res1 Try.results112 hk rfl) (fun w hs => ?_)
    exact ⟨_, [], rfl, ⟨rfl, rfl⟩, hs.fitD⟩
def coversL (m : Int) : List Int := if m = 0 then [0] else if m = 1 then [0, 1] else if m = 2 then [0, 1, 2] else if m = 3 then [0, 1, 3] else if m = 4 then [0, 1, 2, 3, 4] else [0, 1, 2, 3, 4, 5]
def fitsL (m : Int) : List Int := if m = 0 then [0, 1, 2, 3, 4, 5] else if m = 1 then [0, 1, 2, 3, 4] else if m = 2 then [0, 1, 2] else if m = 3 then [0, 1, 3] else if m = 4 then [0, 1] else [0]
--%call poste/modes.covers := md_covers _
set_option maxHeartbeats 800000 in
theorem md_covers (m : Int) : Fn Try.prog 91 [.int .i64 m].toArray [] (fun r post => r = .int .u8 (setV (coversL m)) ∧ post = []) := by
  refine Fn.enter (N := 26) Try.func91 rfl Try.ntmps91 (by kernel_rfl) rfl (fun ρ L => ?_)
  refine K.seq ?_
  refine K.region ?_
  refine KO.q rfl (q_assign rfl) ?_
  refine KO.done ?_
  refine K.seq <| K.seq ?_
  refine K.region ?_
  refine KO.q rfl (q_move rfl) ?_
  refine KO.done ?_
  refine K.block <| K.seq ?_
  refine K.region ?_
  refine KO.q rfl (q_eq rfl rfl) ?_
  refine KO.q rfl (q_assign rfl) ?_
  refine KO.done ?_
  refine K.dcond (s := 4) rfl (fun g4 => ?_) (fun g4 => ?_)
  · refine K.seq ?_
    refine K.region ?_
    refine KO.loud rfl (l_slice sz_36_1 rfl (by repeat (first | exact Fill.nil | (apply Fill.cons; rfl; rfl; rfl) | exact SetN.nil | apply SetN.cons | exact SetAt.here | apply SetAt.there))) ?_
    rintro _ _ ⟨b6, rfl, rfl⟩
    refine KO.st (fun w h => pv_ints [0] rfl h) ?_
    refine KO.loud rfl (OpL.callE rfl (md_set (some ⟨b6, 0, none⟩) 1 [0] (by simp) (by simp))) ?_
    rintro _ _ ⟨_, ⟨rfl, rfl⟩, rfl⟩
    refine KO.q rfl (q_assign rfl) ?_
    refine KO.done ?_
    refine K.ret (fn := Try.f91) Try.func91 (fun a w hk hs => res1 Try.results91 hk rfl) (fun w hs => ?_)
    exact ⟨_, [], rfl, ⟨by refine congrArg (fun l => Value.int .u8 (setV l)) ?_; unfold coversL; (repeat' split) <;> first | rfl | omega, rfl⟩, hs.fitD⟩
  · refine K.seq ?_
    refine K.region ?_
    refine KO.q rfl (q_eq rfl rfl) ?_
    refine KO.q rfl (q_assign rfl) ?_
    refine KO.done ?_
    refine K.dcond (s := 8) rfl (fun g8 => ?_) (fun g8 => ?_)
    · refine K.seq ?_
      refine K.region ?_
      refine KO.loud rfl (l_slice sz_36_2 rfl (by repeat (first | exact Fill.nil | (apply Fill.cons; rfl; rfl; rfl) | exact SetN.nil | apply SetN.cons | exact SetAt.here | apply SetAt.there))) ?_
      rintro _ _ ⟨b6, rfl, rfl⟩
      refine KO.st (fun w h => pv_ints [0,1] rfl h) ?_
      refine KO.loud rfl (OpL.callE rfl (md_set (some ⟨b6, 0, none⟩) 2 [0,1] (by simp) (by simp))) ?_
      rintro _ _ ⟨_, ⟨rfl, rfl⟩, rfl⟩
      refine KO.q rfl (q_assign rfl) ?_
      refine KO.done ?_
      refine K.ret (fn := Try.f91) Try.func91 (fun a w hk hs => res1 Try.results91 hk rfl) (fun w hs => ?_)
      exact ⟨_, [], rfl, ⟨by refine congrArg (fun l => Value.int .u8 (setV l)) ?_; unfold coversL; (repeat' split) <;> first | rfl | omega, rfl⟩, hs.fitD⟩
    · refine K.seq ?_
      refine K.region ?_
      refine KO.q rfl (q_eq rfl rfl) ?_
      refine KO.q rfl (q_assign rfl) ?_
      refine KO.done ?_
      refine K.dcond (s := 12) rfl (fun g12 => ?_) (fun g12 => ?_)
      · refine K.seq ?_
        refine K.region ?_
        refine KO.loud rfl (l_slice sz_36_3 rfl (by repeat (first | exact Fill.nil | (apply Fill.cons; rfl; rfl; rfl) | exact SetN.nil | apply SetN.cons | exact SetAt.here | apply SetAt.there))) ?_
        rintro _ _ ⟨b6, rfl, rfl⟩
        refine KO.st (fun w h => pv_ints [0,1,2] rfl h) ?_
        refine KO.loud rfl (OpL.callE rfl (md_set (some ⟨b6, 0, none⟩) 3 [0,1,2] (by simp) (by simp))) ?_
        rintro _ _ ⟨_, ⟨rfl, rfl⟩, rfl⟩
        refine KO.q rfl (q_assign rfl) ?_
        refine KO.done ?_
        refine K.ret (fn := Try.f91) Try.func91 (fun a w hk hs => res1 Try.results91 hk rfl) (fun w hs => ?_)
        exact ⟨_, [], rfl, ⟨by refine congrArg (fun l => Value.int .u8 (setV l)) ?_; unfold coversL; (repeat' split) <;> first | rfl | omega, rfl⟩, hs.fitD⟩
      · refine K.seq ?_
        refine K.region ?_
        refine KO.q rfl (q_eq rfl rfl) ?_
        refine KO.q rfl (q_assign rfl) ?_
        refine KO.done ?_
        refine K.dcond (s := 16) rfl (fun g16 => ?_) (fun g16 => ?_)
        · refine K.seq ?_
          refine K.region ?_
          refine KO.loud rfl (l_slice sz_36_3 rfl (by repeat (first | exact Fill.nil | (apply Fill.cons; rfl; rfl; rfl) | exact SetN.nil | apply SetN.cons | exact SetAt.here | apply SetAt.there))) ?_
          rintro _ _ ⟨b6, rfl, rfl⟩
          refine KO.st (fun w h => pv_ints [0,1,3] rfl h) ?_
          refine KO.loud rfl (OpL.callE rfl (md_set (some ⟨b6, 0, none⟩) 3 [0,1,3] (by simp) (by simp))) ?_
          rintro _ _ ⟨_, ⟨rfl, rfl⟩, rfl⟩
          refine KO.q rfl (q_assign rfl) ?_
          refine KO.done ?_
          refine K.ret (fn := Try.f91) Try.func91 (fun a w hk hs => res1 Try.results91 hk rfl) (fun w hs => ?_)
          exact ⟨_, [], rfl, ⟨by refine congrArg (fun l => Value.int .u8 (setV l)) ?_; unfold coversL; (repeat' split) <;> first | rfl | omega, rfl⟩, hs.fitD⟩
        · refine K.seq ?_
          refine K.region ?_
          refine KO.q rfl (q_eq rfl rfl) ?_
          refine KO.q rfl (q_assign rfl) ?_
          refine KO.done ?_
          refine K.dcond (s := 20) rfl (fun g20 => ?_) (fun g20 => ?_)
          · refine K.seq ?_
            refine K.region ?_
            refine KO.loud rfl (l_slice sz_36_5 rfl (by repeat (first | exact Fill.nil | (apply Fill.cons; rfl; rfl; rfl) | exact SetN.nil | apply SetN.cons | exact SetAt.here | apply SetAt.there))) ?_
            rintro _ _ ⟨b6, rfl, rfl⟩
            refine KO.st (fun w h => pv_ints [0,1,2,3,4] rfl h) ?_
            refine KO.loud rfl (OpL.callE rfl (md_set (some ⟨b6, 0, none⟩) 5 [0,1,2,3,4] (by simp) (by simp))) ?_
            rintro _ _ ⟨_, ⟨rfl, rfl⟩, rfl⟩
            refine KO.q rfl (q_assign rfl) ?_
            refine KO.done ?_
            refine K.ret (fn := Try.f91) Try.func91 (fun a w hk hs => res1 Try.results91 hk rfl) (fun w hs => ?_)
            exact ⟨_, [], rfl, ⟨by refine congrArg (fun l => Value.int .u8 (setV l)) ?_; unfold coversL; (repeat' split) <;> first | rfl | omega, rfl⟩, hs.fitD⟩
          · refine K.skip <| K.inBlock <| K.seq ?_
            refine K.region ?_
            refine KO.loud rfl (l_slice sz_36_6 rfl (by repeat (first | exact Fill.nil | (apply Fill.cons; rfl; rfl; rfl) | exact SetN.nil | apply SetN.cons | exact SetAt.here | apply SetAt.there))) ?_
            rintro _ _ ⟨b6, rfl, rfl⟩
            refine KO.st (fun w h => pv_ints [0,1,2,3,4,5] rfl h) ?_
            refine KO.loud rfl (OpL.callE rfl (md_set (some ⟨b6, 0, none⟩) 6 [0,1,2,3,4,5] (by simp) (by simp))) ?_
            rintro _ _ ⟨_, ⟨rfl, rfl⟩, rfl⟩
            refine KO.q rfl (q_assign rfl) ?_
            refine KO.done ?_
            refine K.ret (fn := Try.f91) Try.func91 (fun a w hk hs => res1 Try.results91 hk rfl) (fun w hs => ?_)
            exact ⟨_, [], rfl, ⟨by refine congrArg (fun l => Value.int .u8 (setV l)) ?_; unfold coversL; (repeat' split) <;> first | rfl | omega, rfl⟩, hs.fitD⟩
--%call poste/modes.fits := md_fits _
set_option maxHeartbeats 800000 in
theorem md_fits (m : Int) : Fn Try.prog 95 [.int .i64 m].toArray [] (fun r post => r = .int .u8 (setV (fitsL m)) ∧ post = []) := by
  refine Fn.enter (N := 26) Try.func95 rfl Try.ntmps95 (by kernel_rfl) rfl (fun ρ L => ?_)
  refine K.seq ?_
  refine K.region ?_
  refine KO.q rfl (q_assign rfl) ?_
  refine KO.done ?_
  refine K.seq <| K.seq ?_
  refine K.region ?_
  refine KO.q rfl (q_move rfl) ?_
  refine KO.done ?_
  refine K.block <| K.seq ?_
  refine K.region ?_
  refine KO.q rfl (q_eq rfl rfl) ?_
  refine KO.q rfl (q_assign rfl) ?_
  refine KO.done ?_
  refine K.dcond (s := 4) rfl (fun g4 => ?_) (fun g4 => ?_)
  · refine K.seq ?_
    refine K.region ?_
    refine KO.loud rfl (l_slice sz_36_6 rfl (by repeat (first | exact Fill.nil | (apply Fill.cons; rfl; rfl; rfl) | exact SetN.nil | apply SetN.cons | exact SetAt.here | apply SetAt.there))) ?_
    rintro _ _ ⟨b6, rfl, rfl⟩
    refine KO.st (fun w h => pv_ints [0,1,2,3,4,5] rfl h) ?_
    refine KO.loud rfl (OpL.callE rfl (md_set (some ⟨b6, 0, none⟩) 6 [0,1,2,3,4,5] (by simp) (by simp))) ?_
    rintro _ _ ⟨_, ⟨rfl, rfl⟩, rfl⟩
    refine KO.q rfl (q_assign rfl) ?_
    refine KO.done ?_
    refine K.ret (fn := Try.f95) Try.func95 (fun a w hk hs => res1 Try.results95 hk rfl) (fun w hs => ?_)
    exact ⟨_, [], rfl, ⟨by refine congrArg (fun l => Value.int .u8 (setV l)) ?_; unfold fitsL; (repeat' split) <;> first | rfl | omega, rfl⟩, hs.fitD⟩
  · refine K.seq ?_
    refine K.region ?_
    refine KO.q rfl (q_eq rfl rfl) ?_
    refine KO.q rfl (q_assign rfl) ?_
    refine KO.done ?_
    refine K.dcond (s := 8) rfl (fun g8 => ?_) (fun g8 => ?_)
    · refine K.seq ?_
      refine K.region ?_
      refine KO.loud rfl (l_slice sz_36_5 rfl (by repeat (first | exact Fill.nil | (apply Fill.cons; rfl; rfl; rfl) | exact SetN.nil | apply SetN.cons | exact SetAt.here | apply SetAt.there))) ?_
      rintro _ _ ⟨b6, rfl, rfl⟩
      refine KO.st (fun w h => pv_ints [0,1,2,3,4] rfl h) ?_
      refine KO.loud rfl (OpL.callE rfl (md_set (some ⟨b6, 0, none⟩) 5 [0,1,2,3,4] (by simp) (by simp))) ?_
      rintro _ _ ⟨_, ⟨rfl, rfl⟩, rfl⟩
      refine KO.q rfl (q_assign rfl) ?_
      refine KO.done ?_
      refine K.ret (fn := Try.f95) Try.func95 (fun a w hk hs => res1 Try.results95 hk rfl) (fun w hs => ?_)
      exact ⟨_, [], rfl, ⟨by refine congrArg (fun l => Value.int .u8 (setV l)) ?_; unfold fitsL; (repeat' split) <;> first | rfl | omega, rfl⟩, hs.fitD⟩
    · refine K.seq ?_
      refine K.region ?_
      refine KO.q rfl (q_eq rfl rfl) ?_
      refine KO.q rfl (q_assign rfl) ?_
      refine KO.done ?_
      refine K.dcond (s := 12) rfl (fun g12 => ?_) (fun g12 => ?_)
      · refine K.seq ?_
        refine K.region ?_
        refine KO.loud rfl (l_slice sz_36_3 rfl (by repeat (first | exact Fill.nil | (apply Fill.cons; rfl; rfl; rfl) | exact SetN.nil | apply SetN.cons | exact SetAt.here | apply SetAt.there))) ?_
        rintro _ _ ⟨b6, rfl, rfl⟩
        refine KO.st (fun w h => pv_ints [0,1,2] rfl h) ?_
        refine KO.loud rfl (OpL.callE rfl (md_set (some ⟨b6, 0, none⟩) 3 [0,1,2] (by simp) (by simp))) ?_
        rintro _ _ ⟨_, ⟨rfl, rfl⟩, rfl⟩
        refine KO.q rfl (q_assign rfl) ?_
        refine KO.done ?_
        refine K.ret (fn := Try.f95) Try.func95 (fun a w hk hs => res1 Try.results95 hk rfl) (fun w hs => ?_)
        exact ⟨_, [], rfl, ⟨by refine congrArg (fun l => Value.int .u8 (setV l)) ?_; unfold fitsL; (repeat' split) <;> first | rfl | omega, rfl⟩, hs.fitD⟩
      · refine K.seq ?_
        refine K.region ?_
        refine KO.q rfl (q_eq rfl rfl) ?_
        refine KO.q rfl (q_assign rfl) ?_
        refine KO.done ?_
        refine K.dcond (s := 16) rfl (fun g16 => ?_) (fun g16 => ?_)
        · refine K.seq ?_
          refine K.region ?_
          refine KO.loud rfl (l_slice sz_36_3 rfl (by repeat (first | exact Fill.nil | (apply Fill.cons; rfl; rfl; rfl) | exact SetN.nil | apply SetN.cons | exact SetAt.here | apply SetAt.there))) ?_
          rintro _ _ ⟨b6, rfl, rfl⟩
          refine KO.st (fun w h => pv_ints [0,1,3] rfl h) ?_
          refine KO.loud rfl (OpL.callE rfl (md_set (some ⟨b6, 0, none⟩) 3 [0,1,3] (by simp) (by simp))) ?_
          rintro _ _ ⟨_, ⟨rfl, rfl⟩, rfl⟩
          refine KO.q rfl (q_assign rfl) ?_
          refine KO.done ?_
          refine K.ret (fn := Try.f95) Try.func95 (fun a w hk hs => res1 Try.results95 hk rfl) (fun w hs => ?_)
          exact ⟨_, [], rfl, ⟨by refine congrArg (fun l => Value.int .u8 (setV l)) ?_; unfold fitsL; (repeat' split) <;> first | rfl | omega, rfl⟩, hs.fitD⟩
        · refine K.seq ?_
          refine K.region ?_
          refine KO.q rfl (q_eq rfl rfl) ?_
          refine KO.q rfl (q_assign rfl) ?_
          refine KO.done ?_
          refine K.dcond (s := 20) rfl (fun g20 => ?_) (fun g20 => ?_)
          · refine K.seq ?_
            refine K.region ?_
            refine KO.loud rfl (l_slice sz_36_2 rfl (by repeat (first | exact Fill.nil | (apply Fill.cons; rfl; rfl; rfl) | exact SetN.nil | apply SetN.cons | exact SetAt.here | apply SetAt.there))) ?_
            rintro _ _ ⟨b6, rfl, rfl⟩
            refine KO.st (fun w h => pv_ints [0,1] rfl h) ?_
            refine KO.loud rfl (OpL.callE rfl (md_set (some ⟨b6, 0, none⟩) 2 [0,1] (by simp) (by simp))) ?_
            rintro _ _ ⟨_, ⟨rfl, rfl⟩, rfl⟩
            refine KO.q rfl (q_assign rfl) ?_
            refine KO.done ?_
            refine K.ret (fn := Try.f95) Try.func95 (fun a w hk hs => res1 Try.results95 hk rfl) (fun w hs => ?_)
            exact ⟨_, [], rfl, ⟨by refine congrArg (fun l => Value.int .u8 (setV l)) ?_; unfold fitsL; (repeat' split) <;> first | rfl | omega, rfl⟩, hs.fitD⟩
          · refine K.skip <| K.inBlock <| K.seq ?_
            refine K.region ?_
            refine KO.loud rfl (l_slice sz_36_1 rfl (by repeat (first | exact Fill.nil | (apply Fill.cons; rfl; rfl; rfl) | exact SetN.nil | apply SetN.cons | exact SetAt.here | apply SetAt.there))) ?_
            rintro _ _ ⟨b6, rfl, rfl⟩
            refine KO.st (fun w h => pv_ints [0] rfl h) ?_
            refine KO.loud rfl (OpL.callE rfl (md_set (some ⟨b6, 0, none⟩) 1 [0] (by simp) (by simp))) ?_
            rintro _ _ ⟨_, ⟨rfl, rfl⟩, rfl⟩
            refine KO.q rfl (q_assign rfl) ?_
            refine KO.done ?_
            refine K.ret (fn := Try.f95) Try.func95 (fun a w hk hs => res1 Try.results95 hk rfl) (fun w hs => ?_)
            exact ⟨_, [], rfl, ⟨by refine congrArg (fun l => Value.int .u8 (setV l)) ?_; unfold fitsL; (repeat' split) <;> first | rfl | omega, rfl⟩, hs.fitD⟩
def hasV (s m : Int) : Bool := decide (IntKind.u8.wrap ((BitVec.ofInt IntKind.u8.bits (s.fdiv (2 ^ (min m.toNat IntKind.u8.bits))) &&& BitVec.ofInt IntKind.u8.bits 1).toNat) = 1)
--%call poste/modes.has := md_has _ _ (by first | assumption | exact (modeOf_rng _).1)
theorem md_has (s m : Int) (hm : 0 ≤ m) : Fn Try.prog 90 [.int .u8 s, .int .i64 m].toArray [] (fun r post => r = .bool (hasV s m) ∧ post = []) := by
  refine Fn.enter (N := 10) Try.func90 rfl Try.ntmps90 (by kernel_rfl) rfl (fun ρ L => ?_)
  refine K.seq ?_
  refine K.region ?_
  refine KO.q rfl (q_assign rfl) ?_
  refine KO.done ?_
  refine K.seq ?_
  refine K.region ?_
  refine KO.q rfl (q_move rfl) ?_
  refine KO.q rfl (q_move rfl) ?_
  refine KO.q rfl (q_shr rfl rfl (by first | omega | (simp; omega))) ?_
  refine KO.q rfl (q_and rfl rfl) ?_
  refine KO.q rfl (q_eq rfl rfl) ?_
  refine KO.q rfl (q_assign rfl) ?_
  refine KO.done ?_
  refine K.ret (fn := Try.f90) Try.func90 (fun a w hk hs => res1 Try.results90 hk rfl) (fun w hs => ?_)
  exact ⟨_, [], rfl, ⟨rfl, rfl⟩, hs.fitD⟩
def fitsM (a b : Int) : Bool := hasV (setV (fitsL (modeOf a))) (modeOf b)
def coversM (a b : Int) : Bool := hasV (setV (coversL (modeOf a))) (modeOf b)
--%call poste/modes.Fits := md_Fits _ _
theorem md_Fits (a b : Int) : Fn Try.prog 69 [.int .i64 a, .int .i64 b].toArray [] (fun r post => r = .bool (fitsM a b) ∧ post = []) := by
  refine Fn.enter (N := 11) Try.func69 rfl Try.ntmps69 (by kernel_rfl) rfl (fun ρ L => ?_)
  refine K.seq ?_
  refine K.region ?_
  refine KO.q rfl (q_assign rfl) ?_
  refine KO.done ?_
  refine K.seq ?_
  refine K.region ?_
  refine KO.q rfl (q_move rfl) ?_
  refine KO.loud rfl (OpL.callD rfl (h := md_Of _)) ?_
  rintro _ _ ⟨_, ⟨rfl, rfl⟩, rfl⟩
  refine KO.loud rfl (OpL.callD rfl (h := md_fits _)) ?_
  rintro _ _ ⟨_, ⟨rfl, rfl⟩, rfl⟩
  refine KO.q rfl (q_move rfl) ?_
  refine KO.loud rfl (OpL.callD rfl (h := md_Of _)) ?_
  rintro _ _ ⟨_, ⟨rfl, rfl⟩, rfl⟩
  refine KO.loud rfl (OpL.callD rfl (h := md_has _ _ (by first | assumption | exact (modeOf_rng _).1))) ?_
  rintro _ _ ⟨_, ⟨rfl, rfl⟩, rfl⟩
  refine KO.q rfl (q_assign rfl) ?_
  refine KO.done ?_
  refine K.ret (fn := Try.f69) Try.func69 (fun a w hk hs => res1 Try.results69 hk rfl) (fun w hs => ?_)
  exact ⟨_, [], rfl, ⟨rfl, rfl⟩, hs.fitD⟩
--%call poste/modes.Covers := md_Covers _ _
theorem md_Covers (a b : Int) : Fn Try.prog 55 [.int .i64 a, .int .i64 b].toArray [] (fun r post => r = .bool (coversM a b) ∧ post = []) := by
  refine Fn.enter (N := 11) Try.func55 rfl Try.ntmps55 (by kernel_rfl) rfl (fun ρ L => ?_)
  refine K.seq ?_
  refine K.region ?_
  refine KO.q rfl (q_assign rfl) ?_
  refine KO.done ?_
  refine K.seq ?_
  refine K.region ?_
  refine KO.q rfl (q_move rfl) ?_
  refine KO.loud rfl (OpL.callD rfl (h := md_Of _)) ?_
  rintro _ _ ⟨_, ⟨rfl, rfl⟩, rfl⟩
  refine KO.loud rfl (OpL.callD rfl (h := md_covers _)) ?_
  rintro _ _ ⟨_, ⟨rfl, rfl⟩, rfl⟩
  refine KO.q rfl (q_move rfl) ?_
  refine KO.loud rfl (OpL.callD rfl (h := md_Of _)) ?_
  rintro _ _ ⟨_, ⟨rfl, rfl⟩, rfl⟩
  refine KO.loud rfl (OpL.callD rfl (h := md_has _ _ (by first | assumption | exact (modeOf_rng _).1))) ?_
  rintro _ _ ⟨_, ⟨rfl, rfl⟩, rfl⟩
  refine KO.q rfl (q_assign rfl) ?_
  refine KO.done ?_
  refine K.ret (fn := Try.f55) Try.func55 (fun a w hk hs => res1 Try.results55 hk rfl) (fun w hs => ?_)
  exact ⟨_, [], rfl, ⟨rfl, rfl⟩, hs.fitD⟩
end Go.Proofs.Ytfpkeanimkgpaaa.L
