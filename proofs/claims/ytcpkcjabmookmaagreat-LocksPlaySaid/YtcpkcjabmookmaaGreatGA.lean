/- Walks: modes. Walks: modes joined; the document's modes. Walks: who holds a lock, and who waits: where somebody is. -/
import Derived.Test.YtcpkcjabmookmaaGreatTab
import Derived.Test.YtcpkcjabmookmaaGreatPK
/-! Walks: modes. -/
namespace Go.Proofs.YtcpkcjabmookmaaGreat.L
open Go Go.Proofs
attribute [local irreducible] pv fv pt fz RowF RowO rowP old pure_ elA
set_option maxRecDepth 100000
set_option linter.unusedSimpArgs false
set_option linter.unusedVariables false

--%kd int (Kd.int .i64)
/-- Any number as a mode. -/
def modeOf (m : Int) : Int := if m < 0 ∨ 5 < m then 5 else m
theorem modeOf_rng (m : Int) : 0 ≤ modeOf m ∧ modeOf m ≤ 5 := by unfold modeOf; split <;> omega
--%call poste/modes.Of := md_Of _
theorem md_Of (m : Int) : Fn Tryz.prog 22 [.int .i64 m].toArray [] (fun r post => r = .int .i64 (modeOf m) ∧ post = []) := by
  refine Fn.enter (N := 10) Tryz.func22 rfl Tryz.ntmps22 (by kernel_rfl) rfl (fun ρ L => ?_)
  refine K.seq ?_
  refine K.region ?_
  refine KO.q rfl (q_assign rfl) ?_
  refine KO.done ?_
  refine K.seq <| K.seq ?_
  refine K.region ?_
  refine KO.q rfl (q_move rfl) ?_
  refine KO.q rfl (q_lt rfl rfl) ?_
  refine KO.q rfl (q_move rfl) ?_
  refine KO.dsplit 5 rfl (fun g5 => ?_) (fun g5 => ?_)
  · refine KO.skip rfl ?_
    refine KO.skip rfl ?_
    refine KO.q rfl (q_pickT rfl rfl) ?_
    refine KO.done ?_
    refine K.yes rfl ?_
    refine K.seq ?_
    refine K.region ?_
    refine KO.q rfl (q_assign rfl) ?_
    refine KO.done ?_
    refine K.ret (fn := Tryz.f22) Tryz.func22 (fun a w hk hs => res1 Tryz.results22 hk rfl) (fun w hs => ?_)
    exact ⟨_, [], rfl, ⟨by refine congrArg (Value.int .i64) ?_; unfold modeOf; split <;> omega, rfl⟩, hs.fitD⟩
  · refine KO.q rfl (q_move rfl) ?_
    refine KO.q rfl (q_gt rfl rfl) ?_
    refine KO.q rfl (q_pickF rfl rfl) ?_
    refine KO.done ?_
    refine K.dcond (s := 8) rfl (fun g8 => ?_) (fun g8 => ?_)
    · refine K.seq ?_
      refine K.region ?_
      refine KO.q rfl (q_assign rfl) ?_
      refine KO.done ?_
      refine K.ret (fn := Tryz.f22) Tryz.func22 (fun a w hk hs => res1 Tryz.results22 hk rfl) (fun w hs => ?_)
      exact ⟨_, [], rfl, ⟨by refine congrArg (Value.int .i64) ?_; unfold modeOf; split <;> omega, rfl⟩, hs.fitD⟩
    · refine K.skip <| K.seq ?_
      refine K.region ?_
      refine KO.q rfl (q_move rfl) ?_
      refine KO.q rfl (q_assign rfl) ?_
      refine KO.done ?_
      refine K.ret (fn := Tryz.f22) Tryz.func22 (fun a w hk hs => res1 Tryz.results22 hk rfl) (fun w hs => ?_)
      exact ⟨_, [], rfl, ⟨by refine congrArg (Value.int .i64) ?_; unfold modeOf; split <;> omega, rfl⟩, hs.fitD⟩
--%call poste/posteref10.mode := rm_mode _
theorem rm_mode (m : Int) : Fn Tryz.prog 31 [.int .i64 m].toArray [] (fun r post => r = .int .i64 (modeOf m) ∧ post = []) := by
  refine Fn.enter (N := 10) Tryz.func31 rfl Tryz.ntmps31 (by kernel_rfl) rfl (fun ρ L => ?_)
  refine K.seq ?_
  refine K.region ?_
  refine KO.q rfl (q_assign rfl) ?_
  refine KO.done ?_
  refine K.seq <| K.seq ?_
  refine K.region ?_
  refine KO.q rfl (q_move rfl) ?_
  refine KO.q rfl (q_lt rfl rfl) ?_
  refine KO.q rfl (q_move rfl) ?_
  refine KO.dsplit 5 rfl (fun g5 => ?_) (fun g5 => ?_)
  · refine KO.skip rfl ?_
    refine KO.skip rfl ?_
    refine KO.q rfl (q_pickT rfl rfl) ?_
    refine KO.done ?_
    refine K.yes rfl ?_
    refine K.seq ?_
    refine K.region ?_
    refine KO.q rfl (q_assign rfl) ?_
    refine KO.done ?_
    refine K.ret (fn := Tryz.f31) Tryz.func31 (fun a w hk hs => res1 Tryz.results31 hk rfl) (fun w hs => ?_)
    exact ⟨_, [], rfl, ⟨by refine congrArg (Value.int .i64) ?_; unfold modeOf; split <;> omega, rfl⟩, hs.fitD⟩
  · refine KO.q rfl (q_move rfl) ?_
    refine KO.q rfl (q_gt rfl rfl) ?_
    refine KO.q rfl (q_pickF rfl rfl) ?_
    refine KO.done ?_
    refine K.dcond (s := 8) rfl (fun g8 => ?_) (fun g8 => ?_)
    · refine K.seq ?_
      refine K.region ?_
      refine KO.q rfl (q_assign rfl) ?_
      refine KO.done ?_
      refine K.ret (fn := Tryz.f31) Tryz.func31 (fun a w hk hs => res1 Tryz.results31 hk rfl) (fun w hs => ?_)
      exact ⟨_, [], rfl, ⟨by refine congrArg (Value.int .i64) ?_; unfold modeOf; split <;> omega, rfl⟩, hs.fitD⟩
    · refine K.skip <| K.seq ?_
      refine K.region ?_
      refine KO.q rfl (q_move rfl) ?_
      refine KO.q rfl (q_assign rfl) ?_
      refine KO.done ?_
      refine K.ret (fn := Tryz.f31) Tryz.func31 (fun a w hk hs => res1 Tryz.results31 hk rfl) (fun w hs => ?_)
      exact ⟨_, [], rfl, ⟨by refine congrArg (Value.int .i64) ?_; unfold modeOf; split <;> omega, rfl⟩, hs.fitD⟩
def orU (a b : Int) : Int := IntKind.u8.wrap ((BitVec.ofInt IntKind.u8.bits a ||| BitVec.ofInt IntKind.u8.bits b).toNat)
def bitU (m : Int) : Int := IntKind.u8.wrap (1 * 2 ^ (min m.toNat IntKind.u8.bits))
/-- Modes as a set of bits. -/
def setV (xs : List Int) : Int := xs.foldl (fun a m => orU a (bitU m)) 0
theorem setV_succ {xs : List Int} {i : Nat} {m : Int} (h : xs[i]? = some m) : orU (setV (xs.take i)) (bitU m) = setV (xs.take (i + 1)) := by
  unfold setV
  rw [List.take_add_one, h, List.foldl_append]
  rfl
theorem md_set (q : Option Addr) (cap : Nat) (xs : List Int) (hl : (xs.length : Int) ≤ 9223372036854775807) (hm : ∀ m ∈ xs, 0 ≤ m) : Fn Tryz.prog 102 [.slice q xs.length cap].toArray [RowF (Kd.int .i64) q xs] (fun r post => r = .int .u8 (setV xs) ∧ post = []) := by
  refine Fn.enter (N := 18) Tryz.func102 rfl Tryz.ntmps102 (by kernel_rfl) rfl (fun ρ L => ?_)
  refine K.seq ?_
  refine K.region ?_
  refine KO.q rfl (q_assign rfl) ?_
  refine KO.done ?_
  refine K.seq ?_
  refine K.region ?_
  refine KO.q rfl (q_assign rfl) ?_
  refine KO.done ?_
  refine K.seq <| K.seq ?_
  refine K.region ?_
  refine KO.q rfl (q_move rfl) ?_
  refine KO.q rfl (q_len Tryz.underlying39 rfl) ?_
  refine KO.q rfl (q_move rfl) ?_
  refine KO.done ?_
  refine K.block ?_
  refine K.rloop (ι := { i : Nat // i ≤ xs.length }) (fun x => [(8, .int .i64 x.1), (7, .int .i64 xs.length), (6, .slice q xs.length cap), (3, .int .u8 (setV (xs.take x.1)))]) (fun x => xs.length - x.1) ⟨0, Nat.zero_le _⟩ (by repeat (first | exact Env.sub_nil _ | refine Env.sub_cons rfl ?_)) (fun x ih => ?_)
  obtain ⟨i, hi⟩ := x
  dsimp only at hi ⊢
  refine K.seq ?_
  refine K.region ?_
  refine KO.q rfl (q_lt rfl rfl) ?_
  refine KO.done ?_
  refine K.seq ?_
  refine K.dcond (s := 9) rfl (fun g9 => ?_) (fun g9 => ?_)
  · obtain ⟨e, he⟩ : ∃ e, xs[i]? = some e := ⟨_, List.getElem?_eq_getElem (by omega)⟩
    have he0 := hm e (List.mem_of_getElem? he)
    refine K.skip <| K.seq <| K.block <| K.seq ?_
    refine K.region ?_
    first | refine KO.q rfl (q_ix _ se_39 rfl rfl rfl isF (by repeat (first | exact List.Mem.head _ | apply List.Mem.tail)) rfl (by first | assumption | omega | exact (List.getElem?_eq_some_iff.1 (by assumption)).1 | (simp; omega))) ?_ | refine KO.q rfl (q_ix _ se_39 rfl rfl rfl isO (by repeat (first | exact List.Mem.head _ | apply List.Mem.tail)) rfl (by first | assumption | omega | exact (List.getElem?_eq_some_iff.1 (by assumption)).1 | (simp; omega))) ?_
    first | refine KO.q rfl (q_ldE ck_3 rfl isF (by repeat (first | exact List.Mem.head _ | apply List.Mem.tail)) (by first | assumption | exact List.getElem?_eq_getElem (by first | assumption | omega | (simp; omega))) rfl) ?_ | refine KO.q rfl (q_ldE ck_3 rfl isO (by repeat (first | exact List.Mem.head _ | apply List.Mem.tail)) (by first | assumption | exact List.getElem?_eq_getElem (by first | assumption | omega | (simp; omega))) rfl) ?_
    refine KO.q rfl (q_assign rfl) ?_
    refine KO.done ?_
    refine K.region ?_
    refine KO.q rfl (q_move rfl) ?_
    refine KO.q rfl (q_move rfl) ?_
    refine KO.q rfl (q_shl rfl rfl (by first | omega | (simp; omega))) ?_
    refine KO.q rfl (q_or rfl rfl) ?_
    refine KO.q rfl (q_assign rfl) ?_
    refine KO.done ?_
    refine K.inBlock ?_
    refine K.region ?_
    refine KO.q rfl (q_add rfl rfl (by first | omega | (simp; omega)) (by first | omega | (simp; omega))) ?_
    refine KO.q rfl (q_move rfl) ?_
    refine KO.done ?_
    refine K.subE (Env.sub_cons rfl (Env.sub_cons rfl (Env.sub_cons rfl (Env.sub_cons ?_ (Env.sub_nil _))))) (ih ⟨i + 1, by omega⟩ (by show xs.length - (i + 1) < xs.length - i; omega))
    show _ = some (Value.int .u8 (setV (xs.take (i + 1))))
    rw [← setV_succ he]
    rfl
  · obtain rfl : i = xs.length := by omega
    rw [List.take_length]
    refine K.exit rfl ?_
    refine K.seq ?_
    refine K.region ?_
    refine KO.q rfl (q_move rfl) ?_
    refine KO.q rfl (q_assign rfl) ?_
    refine KO.done ?_
    refine K.ret (fn := Tryz.f102) Tryz.func102 (fun a w hk hs => res1 Tryz.results102 hk rfl) (fun w hs => ?_)
    exact ⟨_, [], rfl, ⟨rfl, rfl⟩, hs.fitD⟩
def coversL (m : Int) : List Int := if m = 0 then [0] else if m = 1 then [0, 1] else if m = 2 then [0, 1, 2] else if m = 3 then [0, 1, 3] else if m = 4 then [0, 1, 2, 3, 4] else [0, 1, 2, 3, 4, 5]
def fitsL (m : Int) : List Int := if m = 0 then [0, 1, 2, 3, 4, 5] else if m = 1 then [0, 1, 2, 3, 4] else if m = 2 then [0, 1, 2] else if m = 3 then [0, 1, 3] else if m = 4 then [0, 1] else [0]
--%call poste/modes.covers := md_covers _
set_option maxHeartbeats 800000 in
theorem md_covers (m : Int) : Fn Tryz.prog 84 [.int .i64 m].toArray [] (fun r post => r = .int .u8 (setV (coversL m)) ∧ post = []) := by
  refine Fn.enter (N := 26) Tryz.func84 rfl Tryz.ntmps84 (by kernel_rfl) rfl (fun ρ L => ?_)
  refine K.seq ?_
  refine K.region ?_
  refine KO.q rfl (q_assign rfl) ?_
  refine KO.done ?_
  refine K.seq <| K.seq ?_
  refine K.region ?_
  refine KO.q rfl (q_move rfl) ?_
  refine KO.done ?_
  refine K.block <| K.seq ?_
  refine K.region ?_
  refine KO.q rfl (q_eq rfl rfl) ?_
  refine KO.q rfl (q_assign rfl) ?_
  refine KO.done ?_
  refine K.dcond (s := 4) rfl (fun g4 => ?_) (fun g4 => ?_)
  · refine K.seq ?_
    refine K.region ?_
    refine KO.loud rfl (l_slice sz_39_1 rfl (by repeat (first | exact Fill.nil | (apply Fill.cons; rfl; rfl; rfl) | exact SetN.nil | apply SetN.cons | exact SetAt.here | apply SetAt.there))) ?_
    rintro _ _ ⟨b6, rfl, rfl⟩
    refine KO.st (fun w h => pv_ints [0] rfl h) ?_
    refine KO.loud rfl (OpL.callE rfl (md_set (some ⟨b6, 0, none⟩) 1 [0] (by simp) (by simp))) ?_
    rintro _ _ ⟨_, ⟨rfl, rfl⟩, rfl⟩
    refine KO.q rfl (q_assign rfl) ?_
    refine KO.done ?_
    refine K.ret (fn := Tryz.f84) Tryz.func84 (fun a w hk hs => res1 Tryz.results84 hk rfl) (fun w hs => ?_)
    exact ⟨_, [], rfl, ⟨by refine congrArg (fun l => Value.int .u8 (setV l)) ?_; unfold coversL; (repeat' split) <;> first | rfl | omega, rfl⟩, hs.fitD⟩
  · refine K.seq ?_
    refine K.region ?_
    refine KO.q rfl (q_eq rfl rfl) ?_
    refine KO.q rfl (q_assign rfl) ?_
    refine KO.done ?_
    refine K.dcond (s := 8) rfl (fun g8 => ?_) (fun g8 => ?_)
    · refine K.seq ?_
      refine K.region ?_
      refine KO.loud rfl (l_slice sz_39_2 rfl (by repeat (first | exact Fill.nil | (apply Fill.cons; rfl; rfl; rfl) | exact SetN.nil | apply SetN.cons | exact SetAt.here | apply SetAt.there))) ?_
      rintro _ _ ⟨b6, rfl, rfl⟩
      refine KO.st (fun w h => pv_ints [0,1] rfl h) ?_
      refine KO.loud rfl (OpL.callE rfl (md_set (some ⟨b6, 0, none⟩) 2 [0,1] (by simp) (by simp))) ?_
      rintro _ _ ⟨_, ⟨rfl, rfl⟩, rfl⟩
      refine KO.q rfl (q_assign rfl) ?_
      refine KO.done ?_
      refine K.ret (fn := Tryz.f84) Tryz.func84 (fun a w hk hs => res1 Tryz.results84 hk rfl) (fun w hs => ?_)
      exact ⟨_, [], rfl, ⟨by refine congrArg (fun l => Value.int .u8 (setV l)) ?_; unfold coversL; (repeat' split) <;> first | rfl | omega, rfl⟩, hs.fitD⟩
    · refine K.seq ?_
      refine K.region ?_
      refine KO.q rfl (q_eq rfl rfl) ?_
      refine KO.q rfl (q_assign rfl) ?_
      refine KO.done ?_
      refine K.dcond (s := 12) rfl (fun g12 => ?_) (fun g12 => ?_)
      · refine K.seq ?_
        refine K.region ?_
        refine KO.loud rfl (l_slice sz_39_3 rfl (by repeat (first | exact Fill.nil | (apply Fill.cons; rfl; rfl; rfl) | exact SetN.nil | apply SetN.cons | exact SetAt.here | apply SetAt.there))) ?_
        rintro _ _ ⟨b6, rfl, rfl⟩
        refine KO.st (fun w h => pv_ints [0,1,2] rfl h) ?_
        refine KO.loud rfl (OpL.callE rfl (md_set (some ⟨b6, 0, none⟩) 3 [0,1,2] (by simp) (by simp))) ?_
        rintro _ _ ⟨_, ⟨rfl, rfl⟩, rfl⟩
        refine KO.q rfl (q_assign rfl) ?_
        refine KO.done ?_
        refine K.ret (fn := Tryz.f84) Tryz.func84 (fun a w hk hs => res1 Tryz.results84 hk rfl) (fun w hs => ?_)
        exact ⟨_, [], rfl, ⟨by refine congrArg (fun l => Value.int .u8 (setV l)) ?_; unfold coversL; (repeat' split) <;> first | rfl | omega, rfl⟩, hs.fitD⟩
      · refine K.seq ?_
        refine K.region ?_
        refine KO.q rfl (q_eq rfl rfl) ?_
        refine KO.q rfl (q_assign rfl) ?_
        refine KO.done ?_
        refine K.dcond (s := 16) rfl (fun g16 => ?_) (fun g16 => ?_)
        · refine K.seq ?_
          refine K.region ?_
          refine KO.loud rfl (l_slice sz_39_3 rfl (by repeat (first | exact Fill.nil | (apply Fill.cons; rfl; rfl; rfl) | exact SetN.nil | apply SetN.cons | exact SetAt.here | apply SetAt.there))) ?_
          rintro _ _ ⟨b6, rfl, rfl⟩
          refine KO.st (fun w h => pv_ints [0,1,3] rfl h) ?_
          refine KO.loud rfl (OpL.callE rfl (md_set (some ⟨b6, 0, none⟩) 3 [0,1,3] (by simp) (by simp))) ?_
          rintro _ _ ⟨_, ⟨rfl, rfl⟩, rfl⟩
          refine KO.q rfl (q_assign rfl) ?_
          refine KO.done ?_
          refine K.ret (fn := Tryz.f84) Tryz.func84 (fun a w hk hs => res1 Tryz.results84 hk rfl) (fun w hs => ?_)
          exact ⟨_, [], rfl, ⟨by refine congrArg (fun l => Value.int .u8 (setV l)) ?_; unfold coversL; (repeat' split) <;> first | rfl | omega, rfl⟩, hs.fitD⟩
        · refine K.seq ?_
          refine K.region ?_
          refine KO.q rfl (q_eq rfl rfl) ?_
          refine KO.q rfl (q_assign rfl) ?_
          refine KO.done ?_
          refine K.dcond (s := 20) rfl (fun g20 => ?_) (fun g20 => ?_)
          · refine K.seq ?_
            refine K.region ?_
            refine KO.loud rfl (l_slice sz_39_5 rfl (by repeat (first | exact Fill.nil | (apply Fill.cons; rfl; rfl; rfl) | exact SetN.nil | apply SetN.cons | exact SetAt.here | apply SetAt.there))) ?_
            rintro _ _ ⟨b6, rfl, rfl⟩
            refine KO.st (fun w h => pv_ints [0,1,2,3,4] rfl h) ?_
            refine KO.loud rfl (OpL.callE rfl (md_set (some ⟨b6, 0, none⟩) 5 [0,1,2,3,4] (by simp) (by simp))) ?_
            rintro _ _ ⟨_, ⟨rfl, rfl⟩, rfl⟩
            refine KO.q rfl (q_assign rfl) ?_
            refine KO.done ?_
            refine K.ret (fn := Tryz.f84) Tryz.func84 (fun a w hk hs => res1 Tryz.results84 hk rfl) (fun w hs => ?_)
            exact ⟨_, [], rfl, ⟨by refine congrArg (fun l => Value.int .u8 (setV l)) ?_; unfold coversL; (repeat' split) <;> first | rfl | omega, rfl⟩, hs.fitD⟩
          · refine K.skip <| K.inBlock <| K.seq ?_
            refine K.region ?_
            refine KO.loud rfl (l_slice sz_39_6 rfl (by repeat (first | exact Fill.nil | (apply Fill.cons; rfl; rfl; rfl) | exact SetN.nil | apply SetN.cons | exact SetAt.here | apply SetAt.there))) ?_
            rintro _ _ ⟨b6, rfl, rfl⟩
            refine KO.st (fun w h => pv_ints [0,1,2,3,4,5] rfl h) ?_
            refine KO.loud rfl (OpL.callE rfl (md_set (some ⟨b6, 0, none⟩) 6 [0,1,2,3,4,5] (by simp) (by simp))) ?_
            rintro _ _ ⟨_, ⟨rfl, rfl⟩, rfl⟩
            refine KO.q rfl (q_assign rfl) ?_
            refine KO.done ?_
            refine K.ret (fn := Tryz.f84) Tryz.func84 (fun a w hk hs => res1 Tryz.results84 hk rfl) (fun w hs => ?_)
            exact ⟨_, [], rfl, ⟨by refine congrArg (fun l => Value.int .u8 (setV l)) ?_; unfold coversL; (repeat' split) <;> first | rfl | omega, rfl⟩, hs.fitD⟩
--%call poste/modes.fits := md_fits _
set_option maxHeartbeats 800000 in
theorem md_fits (m : Int) : Fn Tryz.prog 88 [.int .i64 m].toArray [] (fun r post => r = .int .u8 (setV (fitsL m)) ∧ post = []) := by
  refine Fn.enter (N := 26) Tryz.func88 rfl Tryz.ntmps88 (by kernel_rfl) rfl (fun ρ L => ?_)
  refine K.seq ?_
  refine K.region ?_
  refine KO.q rfl (q_assign rfl) ?_
  refine KO.done ?_
  refine K.seq <| K.seq ?_
  refine K.region ?_
  refine KO.q rfl (q_move rfl) ?_
  refine KO.done ?_
  refine K.block <| K.seq ?_
  refine K.region ?_
  refine KO.q rfl (q_eq rfl rfl) ?_
  refine KO.q rfl (q_assign rfl) ?_
  refine KO.done ?_
  refine K.dcond (s := 4) rfl (fun g4 => ?_) (fun g4 => ?_)
  · refine K.seq ?_
    refine K.region ?_
    refine KO.loud rfl (l_slice sz_39_6 rfl (by repeat (first | exact Fill.nil | (apply Fill.cons; rfl; rfl; rfl) | exact SetN.nil | apply SetN.cons | exact SetAt.here | apply SetAt.there))) ?_
    rintro _ _ ⟨b6, rfl, rfl⟩
    refine KO.st (fun w h => pv_ints [0,1,2,3,4,5] rfl h) ?_
    refine KO.loud rfl (OpL.callE rfl (md_set (some ⟨b6, 0, none⟩) 6 [0,1,2,3,4,5] (by simp) (by simp))) ?_
    rintro _ _ ⟨_, ⟨rfl, rfl⟩, rfl⟩
    refine KO.q rfl (q_assign rfl) ?_
    refine KO.done ?_
    refine K.ret (fn := Tryz.f88) Tryz.func88 (fun a w hk hs => res1 Tryz.results88 hk rfl) (fun w hs => ?_)
    exact ⟨_, [], rfl, ⟨by refine congrArg (fun l => Value.int .u8 (setV l)) ?_; unfold fitsL; (repeat' split) <;> first | rfl | omega, rfl⟩, hs.fitD⟩
  · refine K.seq ?_
    refine K.region ?_
    refine KO.q rfl (q_eq rfl rfl) ?_
    refine KO.q rfl (q_assign rfl) ?_
    refine KO.done ?_
    refine K.dcond (s := 8) rfl (fun g8 => ?_) (fun g8 => ?_)
    · refine K.seq ?_
      refine K.region ?_
      refine KO.loud rfl (l_slice sz_39_5 rfl (by repeat (first | exact Fill.nil | (apply Fill.cons; rfl; rfl; rfl) | exact SetN.nil | apply SetN.cons | exact SetAt.here | apply SetAt.there))) ?_
      rintro _ _ ⟨b6, rfl, rfl⟩
      refine KO.st (fun w h => pv_ints [0,1,2,3,4] rfl h) ?_
      refine KO.loud rfl (OpL.callE rfl (md_set (some ⟨b6, 0, none⟩) 5 [0,1,2,3,4] (by simp) (by simp))) ?_
      rintro _ _ ⟨_, ⟨rfl, rfl⟩, rfl⟩
      refine KO.q rfl (q_assign rfl) ?_
      refine KO.done ?_
      refine K.ret (fn := Tryz.f88) Tryz.func88 (fun a w hk hs => res1 Tryz.results88 hk rfl) (fun w hs => ?_)
      exact ⟨_, [], rfl, ⟨by refine congrArg (fun l => Value.int .u8 (setV l)) ?_; unfold fitsL; (repeat' split) <;> first | rfl | omega, rfl⟩, hs.fitD⟩
    · refine K.seq ?_
      refine K.region ?_
      refine KO.q rfl (q_eq rfl rfl) ?_
      refine KO.q rfl (q_assign rfl) ?_
      refine KO.done ?_
      refine K.dcond (s := 12) rfl (fun g12 => ?_) (fun g12 => ?_)
      · refine K.seq ?_
        refine K.region ?_
        refine KO.loud rfl (l_slice sz_39_3 rfl (by repeat (first | exact Fill.nil | (apply Fill.cons; rfl; rfl; rfl) | exact SetN.nil | apply SetN.cons | exact SetAt.here | apply SetAt.there))) ?_
        rintro _ _ ⟨b6, rfl, rfl⟩
        refine KO.st (fun w h => pv_ints [0,1,2] rfl h) ?_
        refine KO.loud rfl (OpL.callE rfl (md_set (some ⟨b6, 0, none⟩) 3 [0,1,2] (by simp) (by simp))) ?_
        rintro _ _ ⟨_, ⟨rfl, rfl⟩, rfl⟩
        refine KO.q rfl (q_assign rfl) ?_
        refine KO.done ?_
        refine K.ret (fn := Tryz.f88) Tryz.func88 (fun a w hk hs => res1 Tryz.results88 hk rfl) (fun w hs => ?_)
        exact ⟨_, [], rfl, ⟨by refine congrArg (fun l => Value.int .u8 (setV l)) ?_; unfold fitsL; (repeat' split) <;> first | rfl | omega, rfl⟩, hs.fitD⟩
      · refine K.seq ?_
        refine K.region ?_
        refine KO.q rfl (q_eq rfl rfl) ?_
        refine KO.q rfl (q_assign rfl) ?_
        refine KO.done ?_
        refine K.dcond (s := 16) rfl (fun g16 => ?_) (fun g16 => ?_)
        · refine K.seq ?_
          refine K.region ?_
          refine KO.loud rfl (l_slice sz_39_3 rfl (by repeat (first | exact Fill.nil | (apply Fill.cons; rfl; rfl; rfl) | exact SetN.nil | apply SetN.cons | exact SetAt.here | apply SetAt.there))) ?_
          rintro _ _ ⟨b6, rfl, rfl⟩
          refine KO.st (fun w h => pv_ints [0,1,3] rfl h) ?_
          refine KO.loud rfl (OpL.callE rfl (md_set (some ⟨b6, 0, none⟩) 3 [0,1,3] (by simp) (by simp))) ?_
          rintro _ _ ⟨_, ⟨rfl, rfl⟩, rfl⟩
          refine KO.q rfl (q_assign rfl) ?_
          refine KO.done ?_
          refine K.ret (fn := Tryz.f88) Tryz.func88 (fun a w hk hs => res1 Tryz.results88 hk rfl) (fun w hs => ?_)
          exact ⟨_, [], rfl, ⟨by refine congrArg (fun l => Value.int .u8 (setV l)) ?_; unfold fitsL; (repeat' split) <;> first | rfl | omega, rfl⟩, hs.fitD⟩
        · refine K.seq ?_
          refine K.region ?_
          refine KO.q rfl (q_eq rfl rfl) ?_
          refine KO.q rfl (q_assign rfl) ?_
          refine KO.done ?_
          refine K.dcond (s := 20) rfl (fun g20 => ?_) (fun g20 => ?_)
          · refine K.seq ?_
            refine K.region ?_
            refine KO.loud rfl (l_slice sz_39_2 rfl (by repeat (first | exact Fill.nil | (apply Fill.cons; rfl; rfl; rfl) | exact SetN.nil | apply SetN.cons | exact SetAt.here | apply SetAt.there))) ?_
            rintro _ _ ⟨b6, rfl, rfl⟩
            refine KO.st (fun w h => pv_ints [0,1] rfl h) ?_
            refine KO.loud rfl (OpL.callE rfl (md_set (some ⟨b6, 0, none⟩) 2 [0,1] (by simp) (by simp))) ?_
            rintro _ _ ⟨_, ⟨rfl, rfl⟩, rfl⟩
            refine KO.q rfl (q_assign rfl) ?_
            refine KO.done ?_
            refine K.ret (fn := Tryz.f88) Tryz.func88 (fun a w hk hs => res1 Tryz.results88 hk rfl) (fun w hs => ?_)
            exact ⟨_, [], rfl, ⟨by refine congrArg (fun l => Value.int .u8 (setV l)) ?_; unfold fitsL; (repeat' split) <;> first | rfl | omega, rfl⟩, hs.fitD⟩
          · refine K.skip <| K.inBlock <| K.seq ?_
            refine K.region ?_
            refine KO.loud rfl (l_slice sz_39_1 rfl (by repeat (first | exact Fill.nil | (apply Fill.cons; rfl; rfl; rfl) | exact SetN.nil | apply SetN.cons | exact SetAt.here | apply SetAt.there))) ?_
            rintro _ _ ⟨b6, rfl, rfl⟩
            refine KO.st (fun w h => pv_ints [0] rfl h) ?_
            refine KO.loud rfl (OpL.callE rfl (md_set (some ⟨b6, 0, none⟩) 1 [0] (by simp) (by simp))) ?_
            rintro _ _ ⟨_, ⟨rfl, rfl⟩, rfl⟩
            refine KO.q rfl (q_assign rfl) ?_
            refine KO.done ?_
            refine K.ret (fn := Tryz.f88) Tryz.func88 (fun a w hk hs => res1 Tryz.results88 hk rfl) (fun w hs => ?_)
            exact ⟨_, [], rfl, ⟨by refine congrArg (fun l => Value.int .u8 (setV l)) ?_; unfold fitsL; (repeat' split) <;> first | rfl | omega, rfl⟩, hs.fitD⟩
def hasV (s m : Int) : Bool := decide (IntKind.u8.wrap ((BitVec.ofInt IntKind.u8.bits (s.fdiv (2 ^ (min m.toNat IntKind.u8.bits))) &&& BitVec.ofInt IntKind.u8.bits 1).toNat) = 1)
--%call poste/modes.has := md_has _ _ (by first | assumption | exact (modeOf_rng _).1)
theorem md_has (s m : Int) (hm : 0 ≤ m) : Fn Tryz.prog 83 [.int .u8 s, .int .i64 m].toArray [] (fun r post => r = .bool (hasV s m) ∧ post = []) := by
  refine Fn.enter (N := 10) Tryz.func83 rfl Tryz.ntmps83 (by kernel_rfl) rfl (fun ρ L => ?_)
  refine K.seq ?_
  refine K.region ?_
  refine KO.q rfl (q_assign rfl) ?_
  refine KO.done ?_
  refine K.seq ?_
  refine K.region ?_
  refine KO.q rfl (q_move rfl) ?_
  refine KO.q rfl (q_move rfl) ?_
  refine KO.q rfl (q_shr rfl rfl (by first | omega | (simp; omega))) ?_
  refine KO.q rfl (q_and rfl rfl) ?_
  refine KO.q rfl (q_eq rfl rfl) ?_
  refine KO.q rfl (q_assign rfl) ?_
  refine KO.done ?_
  refine K.ret (fn := Tryz.f83) Tryz.func83 (fun a w hk hs => res1 Tryz.results83 hk rfl) (fun w hs => ?_)
  exact ⟨_, [], rfl, ⟨rfl, rfl⟩, hs.fitD⟩
def fitsM (a b : Int) : Bool := hasV (setV (fitsL (modeOf a))) (modeOf b)
def coversM (a b : Int) : Bool := hasV (setV (coversL (modeOf a))) (modeOf b)
--%call poste/modes.Fits := md_Fits _ _
theorem md_Fits (a b : Int) : Fn Tryz.prog 72 [.int .i64 a, .int .i64 b].toArray [] (fun r post => r = .bool (fitsM a b) ∧ post = []) := by
  refine Fn.enter (N := 11) Tryz.func72 rfl Tryz.ntmps72 (by kernel_rfl) rfl (fun ρ L => ?_)
  refine K.seq ?_
  refine K.region ?_
  refine KO.q rfl (q_assign rfl) ?_
  refine KO.done ?_
  refine K.seq ?_
  refine K.region ?_
  refine KO.q rfl (q_move rfl) ?_
  refine KO.loud rfl (OpL.callD rfl (h := md_Of _)) ?_
  rintro _ _ ⟨_, ⟨rfl, rfl⟩, rfl⟩
  refine KO.loud rfl (OpL.callD rfl (h := md_fits _)) ?_
  rintro _ _ ⟨_, ⟨rfl, rfl⟩, rfl⟩
  refine KO.q rfl (q_move rfl) ?_
  refine KO.loud rfl (OpL.callD rfl (h := md_Of _)) ?_
  rintro _ _ ⟨_, ⟨rfl, rfl⟩, rfl⟩
  refine KO.loud rfl (OpL.callD rfl (h := md_has _ _ (by first | assumption | exact (modeOf_rng _).1))) ?_
  rintro _ _ ⟨_, ⟨rfl, rfl⟩, rfl⟩
  refine KO.q rfl (q_assign rfl) ?_
  refine KO.done ?_
  refine K.ret (fn := Tryz.f72) Tryz.func72 (fun a w hk hs => res1 Tryz.results72 hk rfl) (fun w hs => ?_)
  exact ⟨_, [], rfl, ⟨rfl, rfl⟩, hs.fitD⟩
--%call poste/modes.Covers := md_Covers _ _
theorem md_Covers (a b : Int) : Fn Tryz.prog 57 [.int .i64 a, .int .i64 b].toArray [] (fun r post => r = .bool (coversM a b) ∧ post = []) := by
  refine Fn.enter (N := 11) Tryz.func57 rfl Tryz.ntmps57 (by kernel_rfl) rfl (fun ρ L => ?_)
  refine K.seq ?_
  refine K.region ?_
  refine KO.q rfl (q_assign rfl) ?_
  refine KO.done ?_
  refine K.seq ?_
  refine K.region ?_
  refine KO.q rfl (q_move rfl) ?_
  refine KO.loud rfl (OpL.callD rfl (h := md_Of _)) ?_
  rintro _ _ ⟨_, ⟨rfl, rfl⟩, rfl⟩
  refine KO.loud rfl (OpL.callD rfl (h := md_covers _)) ?_
  rintro _ _ ⟨_, ⟨rfl, rfl⟩, rfl⟩
  refine KO.q rfl (q_move rfl) ?_
  refine KO.loud rfl (OpL.callD rfl (h := md_Of _)) ?_
  rintro _ _ ⟨_, ⟨rfl, rfl⟩, rfl⟩
  refine KO.loud rfl (OpL.callD rfl (h := md_has _ _ (by first | assumption | exact (modeOf_rng _).1))) ?_
  rintro _ _ ⟨_, ⟨rfl, rfl⟩, rfl⟩
  refine KO.q rfl (q_assign rfl) ?_
  refine KO.done ?_
  refine K.ret (fn := Tryz.f57) Tryz.func57 (fun a w hk hs => res1 Tryz.results57 hk rfl) (fun w hs => ?_)
  exact ⟨_, [], rfl, ⟨rfl, rfl⟩, hs.fitD⟩
end Go.Proofs.YtcpkcjabmookmaaGreat.L
/-! Walks: modes joined; the document's modes. -/
namespace Go.Proofs.YtcpkcjabmookmaaGreat.L
open Go Go.Proofs
attribute [local irreducible] pv fv pt fz RowF RowO rowP old pure_ elA
set_option maxRecDepth 100000
set_option linter.unusedSimpArgs false
set_option linter.unusedVariables false

def joinF (a b : Int) : Nat → Nat → Int
  | _, 0 => 5
  | i, n + 1 => if (coversM (i : Int) a && coversM (i : Int) b) = true then (i : Int) else joinF a b (i + 1) n
def joinM (a b : Int) : Int := joinF a b 0 6
theorem joinF_succ (a b : Int) (i n : Nat) : joinF a b i (n + 1) = if (coversM (i : Int) a && coversM (i : Int) b) = true then (i : Int) else joinF a b (i + 1) n := rfl
def rowsF : List ByteArray := [⟨#[49, 49, 49, 49, 49, 49]⟩, ⟨#[49, 49, 49, 49, 49, 48]⟩, ⟨#[49, 49, 49, 48, 48, 48]⟩, ⟨#[49, 49, 48, 49, 48, 48]⟩, ⟨#[49, 49, 48, 48, 48, 48]⟩, ⟨#[49, 48, 48, 48, 48, 48]⟩]
def rowsC : List ByteArray := [⟨#[49, 48, 48, 48, 48, 48]⟩, ⟨#[49, 49, 48, 48, 48, 48]⟩, ⟨#[49, 49, 49, 48, 48, 48]⟩, ⟨#[49, 49, 48, 49, 48, 48]⟩, ⟨#[49, 49, 49, 49, 49, 48]⟩, ⟨#[49, 49, 49, 49, 49, 49]⟩]
theorem rowsF_tab : ∀ x : Fin 6, ∀ y : Fin 6, ((rowsF[x.1]?).bind fun s => (bytesOf s)[y.1]?).map (fun c => decide ((c.toNat : Int) = 49)) = some (hasV (setV (fitsL x.1)) y.1) := by decide +kernel
theorem rowsF_at (a b : Int) : ∃ (na nb : Nat) (s : ByteArray) (c : UInt8), modeOf a = na ∧ modeOf b = nb ∧ na < 6 ∧ rowsF[na]? = some s ∧ (bytesOf s)[nb]? = some c ∧ decide ((c.toNat : Int) = 49) = fitsM a b := by
  have ha := modeOf_rng a
  have hb := modeOf_rng b
  have h := rowsF_tab ⟨(modeOf a).toNat, by omega⟩ ⟨(modeOf b).toNat, by omega⟩
  simp only [Option.map_eq_some_iff, Option.bind_eq_some_iff] at h
  obtain ⟨c, ⟨s, h1, h2⟩, h3⟩ := h
  refine ⟨(modeOf a).toNat, (modeOf b).toNat, s, c, by omega, by omega, by omega, h1, h2, ?_⟩
  rw [h3]
  unfold fitsM
  rw [Int.toNat_of_nonneg ha.1, Int.toNat_of_nonneg hb.1]
theorem rowsC_tab : ∀ x : Fin 6, ∀ y : Fin 6, ((rowsC[x.1]?).bind fun s => (bytesOf s)[y.1]?).map (fun c => decide ((c.toNat : Int) = 49)) = some (hasV (setV (coversL x.1)) y.1) := by decide +kernel
theorem rowsC_at (a b : Int) : ∃ (na nb : Nat) (s : ByteArray) (c : UInt8), modeOf a = na ∧ modeOf b = nb ∧ na < 6 ∧ rowsC[na]? = some s ∧ (bytesOf s)[nb]? = some c ∧ decide ((c.toNat : Int) = 49) = coversM a b := by
  have ha := modeOf_rng a
  have hb := modeOf_rng b
  have h := rowsC_tab ⟨(modeOf a).toNat, by omega⟩ ⟨(modeOf b).toNat, by omega⟩
  simp only [Option.map_eq_some_iff, Option.bind_eq_some_iff] at h
  obtain ⟨c, ⟨s, h1, h2⟩, h3⟩ := h
  refine ⟨(modeOf a).toNat, (modeOf b).toNat, s, c, by omega, by omega, by omega, h1, h2, ?_⟩
  rw [h3]
  unfold coversM
  rw [Int.toNat_of_nonneg ha.1, Int.toNat_of_nonneg hb.1]
--%call poste/posteref10.Fits := rm_Fits _ _
set_option maxHeartbeats 800000 in
theorem rm_Fits (a b : Int) : Fn Tryz.prog 78 [.int .i64 a, .int .i64 b].toArray [] (fun r post => r = .bool (fitsM a b) ∧ post = []) := by
  obtain ⟨na, nb, s, c, ha, hb, hna, hs1, hc1, hd⟩ := rowsF_at a b
  refine Fn.enter (N := 16) Tryz.func78 rfl Tryz.ntmps78 (by kernel_rfl) rfl (fun ρ L => ?_)
  refine K.seq ?_
  refine K.region ?_
  refine KO.q rfl (q_assign rfl) ?_
  refine KO.done ?_
  refine K.seq ?_
  refine K.region ?_
  refine KO.loud rfl (l_slice sz_120_6 rfl (by repeat (first | exact Fill.nil | (apply Fill.cons; rfl; rfl; rfl) | exact SetN.nil | apply SetN.cons | exact SetAt.here | apply SetAt.there))) ?_
  rintro _ _ ⟨b6, rfl, rfl⟩
  refine KO.st (fun w h => pv_flat (enc := fun s => [Value.string s]) (hl := fun _ => rfl) (h1 := fun _ v h => by simp at h; subst h; rfl) rowsF rfl h) ?_
  refine KO.q rfl (q_assign rfl) ?_
  refine KO.done ?_
  refine K.seq ?_
  refine K.drawU (by repeat (first | apply SubL.pers | apply SubL.drop | exact SubL.none)) mixed ?_
  refine D.q 0 rfl (by kernel_rfl) (by kernel_rfl) (q_move rfl) (fun _ h => h.subD) ?_
  refine D.q 1 rfl (by kernel_rfl) (by kernel_rfl) (q_move rfl) (fun _ h => h.subD) ?_
  refine D.q 5 rfl (by kernel_rfl) (by kernel_rfl) (q_move rfl) (fun _ h => h.subD) ?_
  refine D.all (rs := [2]) (by kernel_rfl) rfl (DAll.cons rfl (by kernel_rfl) (OpL.callD rfl (h := rm_mode _)) (.inr (by rintro _ _ ⟨_, ⟨rfl, rfl⟩, rfl⟩ w h; exact h.subD)) rfl ?_ DAll.nil)
  rintro _ _ ⟨_, ⟨rfl, rfl⟩, rfl⟩
  refine D.q 3 rfl (by kernel_rfl) (by kernel_rfl) (q_ix (xs := rowsF) na se_120 rfl rfl ha isF (by repeat (first | exact List.Mem.head _ | apply List.Mem.tail)) rfl hna) (fun _ h => h.subD) ?_
  refine D.q 4 rfl (by kernel_rfl) (by kernel_rfl) (q_ldE (xs := rowsF) ck_9 rfl isF (by repeat (first | exact List.Mem.head _ | apply List.Mem.tail)) hs1 rfl) (fun _ h => h.subD) ?_
  refine D.all (rs := [6]) (by kernel_rfl) rfl (DAll.cons rfl (by kernel_rfl) (OpL.callD rfl (h := rm_mode _)) (.inr (by rintro _ _ ⟨_, ⟨rfl, rfl⟩, rfl⟩ w h; exact h.subD)) rfl ?_ DAll.nil)
  rintro _ _ ⟨_, ⟨rfl, rfl⟩, rfl⟩
  refine D.q 7 rfl (by kernel_rfl) (by kernel_rfl) (q_six Tryz.underlying9 rfl rfl hb hc1) (fun _ h => h.subD) ?_
  refine D.q 8 rfl (by kernel_rfl) (by kernel_rfl) (q_eq rfl rfl) (fun _ h => h.subD) ?_
  refine D.q 9 rfl (by kernel_rfl) (by kernel_rfl) (q_assign rfl) (fun _ h => h.subD) ?_
  refine D.done (by kernel_rfl) ?_
  refine K.ret (fn := Tryz.f78) Tryz.func78 (fun a w hk hs => res1 Tryz.results78 hk rfl) (fun w hs => ?_)
  exact ⟨_, [], rfl, ⟨by rw [← hd], rfl⟩, hs.fitD⟩
--%call poste/posteref10.Covers := rm_Covers _ _
set_option maxHeartbeats 800000 in
theorem rm_Covers (a b : Int) : Fn Tryz.prog 63 [.int .i64 a, .int .i64 b].toArray [] (fun r post => r = .bool (coversM a b) ∧ post = []) := by
  obtain ⟨na, nb, s, c, ha, hb, hna, hs1, hc1, hd⟩ := rowsC_at a b
  refine Fn.enter (N := 16) Tryz.func63 rfl Tryz.ntmps63 (by kernel_rfl) rfl (fun ρ L => ?_)
  refine K.seq ?_
  refine K.region ?_
  refine KO.q rfl (q_assign rfl) ?_
  refine KO.done ?_
  refine K.seq ?_
  refine K.region ?_
  refine KO.loud rfl (l_slice sz_120_6 rfl (by repeat (first | exact Fill.nil | (apply Fill.cons; rfl; rfl; rfl) | exact SetN.nil | apply SetN.cons | exact SetAt.here | apply SetAt.there))) ?_
  rintro _ _ ⟨b6, rfl, rfl⟩
  refine KO.st (fun w h => pv_flat (enc := fun s => [Value.string s]) (hl := fun _ => rfl) (h1 := fun _ v h => by simp at h; subst h; rfl) rowsC rfl h) ?_
  refine KO.q rfl (q_assign rfl) ?_
  refine KO.done ?_
  refine K.seq ?_
  refine K.drawU (by repeat (first | apply SubL.pers | apply SubL.drop | exact SubL.none)) mixed ?_
  refine D.q 0 rfl (by kernel_rfl) (by kernel_rfl) (q_move rfl) (fun _ h => h.subD) ?_
  refine D.q 1 rfl (by kernel_rfl) (by kernel_rfl) (q_move rfl) (fun _ h => h.subD) ?_
  refine D.q 5 rfl (by kernel_rfl) (by kernel_rfl) (q_move rfl) (fun _ h => h.subD) ?_
  refine D.all (rs := [2]) (by kernel_rfl) rfl (DAll.cons rfl (by kernel_rfl) (OpL.callD rfl (h := rm_mode _)) (.inr (by rintro _ _ ⟨_, ⟨rfl, rfl⟩, rfl⟩ w h; exact h.subD)) rfl ?_ DAll.nil)
  rintro _ _ ⟨_, ⟨rfl, rfl⟩, rfl⟩
  refine D.q 3 rfl (by kernel_rfl) (by kernel_rfl) (q_ix (xs := rowsC) na se_120 rfl rfl ha isF (by repeat (first | exact List.Mem.head _ | apply List.Mem.tail)) rfl hna) (fun _ h => h.subD) ?_
  refine D.q 4 rfl (by kernel_rfl) (by kernel_rfl) (q_ldE (xs := rowsC) ck_9 rfl isF (by repeat (first | exact List.Mem.head _ | apply List.Mem.tail)) hs1 rfl) (fun _ h => h.subD) ?_
  refine D.all (rs := [6]) (by kernel_rfl) rfl (DAll.cons rfl (by kernel_rfl) (OpL.callD rfl (h := rm_mode _)) (.inr (by rintro _ _ ⟨_, ⟨rfl, rfl⟩, rfl⟩ w h; exact h.subD)) rfl ?_ DAll.nil)
  rintro _ _ ⟨_, ⟨rfl, rfl⟩, rfl⟩
  refine D.q 7 rfl (by kernel_rfl) (by kernel_rfl) (q_six Tryz.underlying9 rfl rfl hb hc1) (fun _ h => h.subD) ?_
  refine D.q 8 rfl (by kernel_rfl) (by kernel_rfl) (q_eq rfl rfl) (fun _ h => h.subD) ?_
  refine D.q 9 rfl (by kernel_rfl) (by kernel_rfl) (q_assign rfl) (fun _ h => h.subD) ?_
  refine D.done (by kernel_rfl) ?_
  refine K.ret (fn := Tryz.f63) Tryz.func63 (fun a w hk hs => res1 Tryz.results63 hk rfl) (fun w hs => ?_)
  exact ⟨_, [], rfl, ⟨by rw [← hd], rfl⟩, hs.fitD⟩
--%call poste/modes.Join := md_Join _ _
set_option maxHeartbeats 800000 in
theorem md_Join (a b : Int) : Fn Tryz.prog 58 [.int .i64 a, .int .i64 b].toArray [] (fun r post => r = .int .i64 (joinM a b) ∧ post = []) := by
  refine Fn.enter (N := 19) Tryz.func58 rfl Tryz.ntmps58 (by kernel_rfl) rfl (fun ρ L => ?_)
  refine K.seq ?_
  refine K.region ?_
  refine KO.q rfl (q_assign rfl) ?_
  refine KO.done ?_
  refine K.seq <| K.seq ?_
  refine K.region ?_
  refine KO.q rfl (q_move rfl) ?_
  refine KO.done ?_
  refine K.block ?_
  refine K.rloop (ι := { i : Nat // i ≤ 6 ∧ joinM a b = joinF a b i (6 - i) }) (fun x => [(6, .int .i64 x.1), (0, .int .i64 a), (1, .int .i64 b)]) (fun x => 6 - x.1) ⟨0, Nat.zero_le _, rfl⟩ (by repeat (first | exact Env.sub_nil _ | refine Env.sub_cons rfl ?_)) (fun x ih => ?_)
  obtain ⟨i, hi, hj⟩ := x
  dsimp only at hi hj ⊢
  refine K.seq ?_
  refine K.region ?_
  refine KO.q rfl (q_lt rfl rfl) ?_
  refine KO.done ?_
  refine K.seq ?_
  refine K.dcond (s := 7) rfl (fun g7 => ?_) (fun g7 => ?_)
  · rw [show 6 - i = (5 - i) + 1 by omega, joinF_succ] at hj
    refine K.skip <| K.seq <| K.block <| K.seq ?_
    refine K.region ?_
    refine KO.q rfl (q_move rfl) ?_
    refine KO.q rfl (q_assign rfl) ?_
    refine KO.done ?_
    refine K.seq ?_
    refine K.region ?_
    refine KO.q rfl (q_move rfl) ?_
    refine KO.q rfl (q_move rfl) ?_
    refine KO.loud rfl (OpL.callD rfl (h := md_Covers _ _)) ?_
    rintro _ _ ⟨_, ⟨rfl, rfl⟩, rfl⟩
    refine KO.q rfl (q_move rfl) ?_
    refine KO.split 12 rfl (fun g12 => ?_) (fun g12 => ?_)
    · refine KO.q rfl (q_move rfl) ?_
      refine KO.q rfl (q_move rfl) ?_
      refine KO.loud rfl (OpL.callD rfl (h := md_Covers _ _)) ?_
      rintro _ _ ⟨_, ⟨rfl, rfl⟩, rfl⟩
      refine KO.q rfl (q_pickT rfl rfl) ?_
      refine KO.done ?_
      refine K.bcond (s := 16) rfl (fun g16 => ?_) (fun g16 => ?_)
      · refine K.seq ?_
        have hr : joinM a b = i := by rw [hj, if_pos (by simp [*])]
        rw [hr]
        refine K.region ?_
        refine KO.q rfl (q_move rfl) ?_
        refine KO.q rfl (q_assign rfl) ?_
        refine KO.done ?_
        refine K.ret (fn := Tryz.f58) Tryz.func58 (fun a w hk hs => res1 Tryz.results58 hk rfl) (fun w hs => ?_)
        exact ⟨_, [], rfl, ⟨rfl, rfl⟩, hs.fitD⟩
      · refine K.skip <| K.inBlock ?_
        refine K.region ?_
        refine KO.q rfl (q_add rfl rfl (by first | omega | (simp; omega)) (by first | omega | (simp; omega))) ?_
        refine KO.q rfl (q_move rfl) ?_
        refine KO.done ?_
        exact K.subE (by repeat (first | exact Env.sub_nil _ | refine Env.sub_cons rfl ?_)) (ih ⟨i + 1, by omega, by rw [hj, if_neg (by simp [*]), show 6 - (i + 1) = 5 - i by omega]⟩ (by show 6 - (i + 1) < 6 - i; omega))
    · refine KO.skip rfl ?_
      refine KO.skip rfl ?_
      refine KO.skip rfl ?_
      refine KO.q rfl (q_pickF rfl rfl) ?_
      refine KO.done ?_
      refine K.no rfl ?_
      refine K.skip <| K.inBlock ?_
      refine K.region ?_
      refine KO.q rfl (q_add rfl rfl (by first | omega | (simp; omega)) (by first | omega | (simp; omega))) ?_
      refine KO.q rfl (q_move rfl) ?_
      refine KO.done ?_
      exact K.subE (by repeat (first | exact Env.sub_nil _ | refine Env.sub_cons rfl ?_)) (ih ⟨i + 1, by omega, by rw [hj, if_neg (by simp [*]), show 6 - (i + 1) = 5 - i by omega]⟩ (by show 6 - (i + 1) < 6 - i; omega))
  · obtain rfl : i = 6 := by omega
    have hr : joinM a b = 5 := by rw [hj]; rfl
    rw [hr]
    refine K.exit rfl ?_
    refine K.seq ?_
    refine K.region ?_
    refine KO.q rfl (q_assign rfl) ?_
    refine KO.done ?_
    refine K.ret (fn := Tryz.f58) Tryz.func58 (fun a w hk hs => res1 Tryz.results58 hk rfl) (fun w hs => ?_)
    exact ⟨_, [], rfl, ⟨rfl, rfl⟩, hs.fitD⟩
--%call poste/posteref10.Join := rm_Join _ _
set_option maxHeartbeats 800000 in
theorem rm_Join (a b : Int) : Fn Tryz.prog 64 [.int .i64 a, .int .i64 b].toArray [] (fun r post => r = .int .i64 (joinM a b) ∧ post = []) := by
  refine Fn.enter (N := 19) Tryz.func64 rfl Tryz.ntmps64 (by kernel_rfl) rfl (fun ρ L => ?_)
  refine K.seq ?_
  refine K.region ?_
  refine KO.q rfl (q_assign rfl) ?_
  refine KO.done ?_
  refine K.seq <| K.seq ?_
  refine K.region ?_
  refine KO.q rfl (q_assign rfl) ?_
  refine KO.done ?_
  refine K.block ?_
  refine K.rloop (ι := { i : Nat // i ≤ 6 ∧ joinM a b = joinF a b i (6 - i) }) (fun x => [(5, .int .i64 x.1), (0, .int .i64 a), (1, .int .i64 b)]) (fun x => 6 - x.1) ⟨0, Nat.zero_le _, rfl⟩ (by repeat (first | exact Env.sub_nil _ | refine Env.sub_cons rfl ?_)) (fun x ih => ?_)
  obtain ⟨i, hi, hj⟩ := x
  dsimp only at hi hj ⊢
  refine K.seq <| K.seq ?_
  refine K.region ?_
  refine KO.q rfl (q_move rfl) ?_
  refine KO.q rfl (q_le rfl rfl) ?_
  refine KO.done ?_
  refine K.dcond (s := 7) rfl (fun g7 => ?_) (fun g7 => ?_)
  · rw [show 6 - i = (5 - i) + 1 by omega, joinF_succ] at hj
    refine K.skip <| K.seq <| K.block <| K.seq ?_
    refine K.region ?_
    refine KO.q rfl (q_move rfl) ?_
    refine KO.q rfl (q_move rfl) ?_
    refine KO.loud rfl (OpL.callD rfl (h := rm_Covers _ _)) ?_
    rintro _ _ ⟨_, ⟨rfl, rfl⟩, rfl⟩
    refine KO.q rfl (q_move rfl) ?_
    refine KO.split 13 rfl (fun g13 => ?_) (fun g13 => ?_)
    · refine KO.q rfl (q_move rfl) ?_
      refine KO.q rfl (q_move rfl) ?_
      refine KO.loud rfl (OpL.callD rfl (h := rm_Covers _ _)) ?_
      rintro _ _ ⟨_, ⟨rfl, rfl⟩, rfl⟩
      refine KO.q rfl (q_pickT rfl rfl) ?_
      refine KO.done ?_
      refine K.bcond (s := 17) rfl (fun g17 => ?_) (fun g17 => ?_)
      · refine K.seq ?_
        have hr : joinM a b = i := by rw [hj, if_pos (by simp [*])]
        rw [hr]
        refine K.region ?_
        refine KO.q rfl (q_move rfl) ?_
        refine KO.q rfl (q_assign rfl) ?_
        refine KO.done ?_
        refine K.ret (fn := Tryz.f64) Tryz.func64 (fun a w hk hs => res1 Tryz.results64 hk rfl) (fun w hs => ?_)
        exact ⟨_, [], rfl, ⟨rfl, rfl⟩, hs.fitD⟩
      · refine K.skip <| K.inBlock ?_
        refine K.region ?_
        refine KO.q rfl (q_move rfl) ?_
        refine KO.q rfl (q_add rfl rfl (by first | omega | (simp; omega)) (by first | omega | (simp; omega))) ?_
        refine KO.q rfl (q_assign rfl) ?_
        refine KO.done ?_
        exact K.subE (by repeat (first | exact Env.sub_nil _ | refine Env.sub_cons rfl ?_)) (ih ⟨i + 1, by omega, by rw [hj, if_neg (by simp [*]), show 6 - (i + 1) = 5 - i by omega]⟩ (by show 6 - (i + 1) < 6 - i; omega))
    · refine KO.skip rfl ?_
      refine KO.skip rfl ?_
      refine KO.skip rfl ?_
      refine KO.q rfl (q_pickF rfl rfl) ?_
      refine KO.done ?_
      refine K.no rfl ?_
      refine K.skip <| K.inBlock ?_
      refine K.region ?_
      refine KO.q rfl (q_move rfl) ?_
      refine KO.q rfl (q_add rfl rfl (by first | omega | (simp; omega)) (by first | omega | (simp; omega))) ?_
      refine KO.q rfl (q_assign rfl) ?_
      refine KO.done ?_
      exact K.subE (by repeat (first | exact Env.sub_nil _ | refine Env.sub_cons rfl ?_)) (ih ⟨i + 1, by omega, by rw [hj, if_neg (by simp [*]), show 6 - (i + 1) = 5 - i by omega]⟩ (by show 6 - (i + 1) < 6 - i; omega))
  · obtain rfl : i = 6 := by omega
    have hr : joinM a b = 5 := by rw [hj]; rfl
    rw [hr]
    refine K.exit rfl ?_
    refine K.seq ?_
    refine K.region ?_
    refine KO.q rfl (q_assign rfl) ?_
    refine KO.done ?_
    refine K.ret (fn := Tryz.f64) Tryz.func64 (fun a w hk hs => res1 Tryz.results64 hk rfl) (fun w hs => ?_)
    exact ⟨_, [], rfl, ⟨rfl, rfl⟩, hs.fitD⟩
end Go.Proofs.YtcpkcjabmookmaaGreat.L
/-! Walks: who holds a lock, and who waits: where somebody is. -/
namespace Go.Proofs.YtcpkcjabmookmaaGreat.L
open Go Go.Proofs
attribute [local irreducible] pv fv pt fz RowF RowO rowP old pure_ elA
set_option maxRecDepth 100000
set_option linter.unusedSimpArgs false
set_option linter.unusedVariables false

structure One where
  who : Int
  mode : Int
def One.cells (o : One) : List Value := [.int .i64 o.who, .int .i64 o.mode]
theorem one_sz (o : One) : o.cells.length = 2 := rfl
theorem one_one (o : One) : ∀ v ∈ o.cells, v.oneCell' = true := fun v h => by simp [One.cells] at h; rcases h with rfl | rfl <;> rfl
def Kd.one1 : Kd One := Kd.flat 2 One.cells one_sz one_one
--%rec grant.one One
--%kd grant.one Kd.one1
theorem q_as_one {X : Fx} {o : Oper} {E : Env} {L : List HP} {cs : List Value} {who_ mode_ : Int} (h : OpQ X o E L (.agg cs.toArray)) (e : cs = [.int .i64 who_, .int .i64 mode_]) : OpQ X o E L (.agg (One.cells ⟨who_, mode_⟩).toArray) := q_as h e
theorem ixf_one (A R : HP) (q : Option Addr) (cap : Nat) (l : List One) (hA : IsRow A Kd.one1 q l) (f : FuncId) (cs : List Value) (p : One → Bool) (hl : (l.length : Int) ≤ 9223372036854775807) (hf : ∀ x ∈ l, Fn Tryz.prog f (Value.agg x.cells.toArray :: cs).toArray [R] (fun v post => v = .bool (p x) ∧ post = [R])) :
    Fn Tryz.prog 81 [.slice q l.length cap, .func (.func f) #[] cs.toArray].toArray [A, R] (fun r post => r = .int .i64 (idxP p l) ∧ post = [A, R]) := by
  refine Fn.enter (N := 19) Tryz.func81 rfl Tryz.ntmps81 (by kernel_rfl) rfl (fun ρ L => ?_)
  refine K.seq ?_
  refine K.region ?_
  refine KO.q rfl (q_assign rfl) ?_
  refine KO.done ?_
  refine K.seq <| K.seq ?_
  refine K.region ?_
  refine KO.q rfl (q_move rfl) ?_
  refine KO.q rfl (q_len Tryz.underlying66 rfl) ?_
  refine KO.q rfl (q_move rfl) ?_
  refine KO.done ?_
  refine K.block ?_
  refine K.rloop (ι := { i : Nat // i ≤ l.length ∧ (l.take i).any p = false }) (fun x => [(8, .int .i64 x.1), (7, .int .i64 l.length), (0, .slice q l.length cap), (1, .func (.func f) #[] cs.toArray)]) (fun x => l.length - x.1) ⟨0, Nat.zero_le _, rfl⟩ (by repeat (first | exact Env.sub_nil _ | refine Env.sub_cons rfl ?_)) (fun x ih => ?_)
  obtain ⟨i, hi, hz⟩ := x
  dsimp only at hi hz ⊢
  refine K.seq ?_
  refine K.region ?_
  refine KO.q rfl (q_lt rfl rfl) ?_
  refine KO.done ?_
  refine K.seq ?_
  refine K.dcond (s := 9) rfl (fun g9 => ?_) (fun g9 => ?_)
  · obtain ⟨e, he⟩ : ∃ e, l[i]? = some e := ⟨_, List.getElem?_eq_getElem (by omega)⟩
    refine K.skip <| K.seq <| K.block <| K.seq ?_
    refine K.region ?_
    refine KO.q rfl (q_move rfl) ?_
    refine KO.q rfl (q_assign rfl) ?_
    refine KO.done ?_
    refine K.seq ?_
    refine K.region ?_
    refine KO.q rfl (q_move rfl) ?_
    refine KO.q rfl (q_move rfl) ?_
    refine KO.q rfl (q_move rfl) ?_
    refine KO.q rfl (q_ix i se_66 rfl rfl rfl hA (by repeat (first | exact List.Mem.head _ | apply List.Mem.tail)) rfl (by omega)) ?_
    refine KO.q rfl (q_ldEN ck_100 rfl hA (by repeat (first | exact List.Mem.head _ | apply List.Mem.tail)) he) ?_
    refine KO.loud rfl (OpL.callCG (first := []) (captured := cs) rfl rfl (by repeat (first | exact Give.nil | (apply Give.perI; (repeat (first | exact List.Mem.head _ | apply List.Mem.tail))) | (apply Give.own; (repeat (first | exact Pick.here | apply Pick.there))))) (hf e (List.mem_of_getElem? he))) ?_
    rintro _ _ ⟨_, ⟨rfl, rfl⟩, rfl⟩
    refine KO.done ?_
    refine K.bcond (s := 16) rfl (fun g16 => ?_) (fun g16 => ?_)
    · refine K.seq ?_
      have hr : idxP p l = i := idxP_some he g16 hz
      refine K.region ?_
      refine KO.q rfl (q_move rfl) ?_
      refine KO.q rfl (q_assign rfl) ?_
      refine KO.done ?_
      refine K.ret (fn := Tryz.f81) Tryz.func81 (fun a w hk hs => res1 Tryz.results81 hk rfl) (fun w hs => ?_)
      rw [hr]
      exact ⟨_, [A, R], rfl, ⟨rfl, rfl⟩, hs.fitD⟩
    · refine K.skip <| K.inBlock ?_
      refine K.region ?_
      refine KO.q rfl (q_add rfl rfl (by first | omega | (simp; omega)) (by first | omega | (simp; omega))) ?_
      refine KO.q rfl (q_move rfl) ?_
      refine KO.done ?_
      exact K.weak (by repeat (first | exact Env.sub_nil _ | refine Env.sub_cons rfl ?_)) (fun w h => h.fitD) (ih ⟨i + 1, by omega, by rw [any_take_succ he, hz, g16]; rfl⟩ (by show l.length - (i + 1) < l.length - i; omega))
  · refine K.exit rfl ?_
    refine K.seq ?_
    have hr : idxP p l = -1 := idxP_none (by rw [List.take_of_length_le (by omega)] at hz; exact hz)
    refine K.region ?_
    refine KO.q rfl (q_assign rfl) ?_
    refine KO.done ?_
    refine K.ret (fn := Tryz.f81) Tryz.func81 (fun a w hk hs => res1 Tryz.results81 hk rfl) (fun w hs => ?_)
    rw [hr]
    exact ⟨_, [A, R], rfl, ⟨rfl, rfl⟩, hs.fitD⟩
theorem cof_one (A R : HP) (q : Option Addr) (cap : Nat) (l : List One) (hA : IsRow A Kd.one1 q l) (f : FuncId) (cs : List Value) (p : One → Bool) (hl : (l.length : Int) ≤ 9223372036854775807) (hf : ∀ x ∈ l, Fn Tryz.prog f (Value.agg x.cells.toArray :: cs).toArray [R] (fun v post => v = .bool (p x) ∧ post = [R])) :
    Fn Tryz.prog 85 [.slice q l.length cap, .func (.func f) #[] cs.toArray].toArray [A, R] (fun r post => r = .bool (l.any p) ∧ post = [A, R]) := by
  refine Fn.enter (N := 9) Tryz.func85 rfl Tryz.ntmps85 (by kernel_rfl) rfl (fun ρ L => ?_)
  refine K.seq ?_
  refine K.region ?_
  refine KO.q rfl (q_assign rfl) ?_
  refine KO.done ?_
  refine K.seq ?_
  refine K.region ?_
  refine KO.q rfl (q_move rfl) ?_
  refine KO.q rfl (q_move rfl) ?_
  refine KO.loud rfl (OpL.callD rfl (h := ixf_one A R q cap l hA f cs p hl hf)) ?_
  rintro _ _ ⟨_, ⟨rfl, rfl⟩, rfl⟩
  refine KO.q rfl (q_ge rfl rfl) ?_
  refine KO.q rfl (q_assign rfl) ?_
  refine KO.done ?_
  refine K.ret (fn := Tryz.f85) Tryz.func85 (fun a w hk hs => res1 Tryz.results85 hk rfl) (fun w hs => ?_)
  exact ⟨_, [A, R], rfl, ⟨by rw [← idxP_any], rfl⟩, hs.fitD⟩
theorem gr_find1 (b : Nat) (who : Int) (x : One) : Fn Tryz.prog 82 [.agg x.cells.toArray, .pointer (some ⟨b, 0, none⟩)].toArray [pv b 3 [.int .i64 who]] (fun v post => v = .bool (decide (x.who = who)) ∧ post = [pv b 3 [.int .i64 who]]) := by
  refine Fn.enter (N := 8) Tryz.func82 rfl Tryz.ntmps82 (by kernel_rfl) rfl (fun ρ L => ?_)
  refine K.seq ?_
  refine K.region ?_
  refine KO.loud rfl (l_box rfl rfl) ?_
  rintro _ _ ⟨b2, rfl, rfl⟩
  refine KO.q rfl (q_assign rfl) ?_
  refine KO.done ?_
  refine K.seq ?_
  refine K.region ?_
  refine KO.q rfl (q_field fo_100_0 rfl) ?_
  refine KO.q rfl (q_load1D ck_3 rfl) ?_
  refine KO.q rfl (q_load1D ck_3 rfl) ?_
  refine KO.q rfl (q_eq rfl rfl) ?_
  refine KO.q rfl (q_assign rfl) ?_
  refine KO.done ?_
  refine K.ret (fn := Tryz.f82) Tryz.func82 (fun a w hk hs => res1 Tryz.results82 hk rfl) (fun w hs => ?_)
  exact ⟨_, [pv b 3 [.int .i64 who]], rfl, ⟨rfl, rfl⟩, hs.fitD⟩
def at1 (l : List One) (who : Int) : Int := idxP (fun x => decide (x.who = who)) l
theorem gr_find (A : HP) (q : Option Addr) (cap : Nat) (l : List One) (who : Int) (hA : IsRow A Kd.one1 q l) (hl : (l.length : Int) ≤ 9223372036854775807) : Fn Tryz.prog 56 [.slice q l.length cap, .int .i64 who].toArray [A] (fun r post => r = .int .i64 (at1 l who) ∧ post = [A]) := by
  refine Fn.enter (N := 8) Tryz.func56 rfl Tryz.ntmps56 (by kernel_rfl) rfl (fun ρ L => ?_)
  refine K.seq ?_
  refine K.region ?_
  refine KO.loud rfl (l_box rfl rfl) ?_
  rintro _ _ ⟨b3, rfl, rfl⟩
  refine KO.q rfl (q_assign rfl) ?_
  refine KO.done ?_
  refine K.seq ?_
  refine K.region ?_
  refine KO.q rfl (q_move rfl) ?_
  refine KO.q rfl (q_func rfl rfl) ?_
  refine KO.loud rfl (OpL.callD rfl (h := ixf_one A (pv b3 3 [.int .i64 who]) q cap l hA 82 [.pointer (some ⟨b3, 0, none⟩)] (fun x => decide (x.who = who)) hl (fun x _ => gr_find1 b3 who x))) ?_
  rintro _ _ ⟨_, ⟨rfl, rfl⟩, rfl⟩
  refine KO.q rfl (q_assign rfl) ?_
  refine KO.done ?_
  refine K.ret (fn := Tryz.f56) Tryz.func56 (fun a w hk hs => res1 Tryz.results56 hk rfl) (fun w hs => ?_)
  exact ⟨_, [A], rfl, ⟨rfl, rfl⟩, hs.fitD⟩
theorem gr_fits1 (b : Nat) (y x : One) : Fn Tryz.prog 86 [.agg x.cells.toArray, .pointer (some ⟨b, 0, none⟩)].toArray [pv b 100 y.cells] (fun v post => v = .bool (decide (x.who ≠ y.who) && !fitsM y.mode x.mode) ∧ post = [pv b 100 y.cells]) := by
  refine Fn.enter (N := 17) Tryz.func86 rfl Tryz.ntmps86 (by kernel_rfl) rfl (fun ρ L => ?_)
  refine K.seq ?_
  refine K.region ?_
  refine KO.loud rfl (l_box rfl rfl) ?_
  rintro _ _ ⟨b2, rfl, rfl⟩
  refine KO.q rfl (q_assign rfl) ?_
  refine KO.done ?_
  refine K.seq ?_
  refine K.region ?_
  refine KO.q rfl (q_field fo_100_0 rfl) ?_
  refine KO.q rfl (q_load1D ck_3 rfl) ?_
  refine KO.q rfl (q_field fo_100_0 rfl) ?_
  refine KO.q rfl (q_load1D ck_3 rfl) ?_
  refine KO.q rfl (q_ne rfl rfl) ?_
  refine KO.q rfl (q_move rfl) ?_
  refine KO.dsplit 9 rfl (fun g9 => ?_) (fun g9 => ?_)
  · refine KO.q rfl (q_field fo_100_1 rfl) ?_
    refine KO.q rfl (q_load1D ck_3 rfl) ?_
    refine KO.q rfl (q_field fo_100_1 rfl) ?_
    refine KO.q rfl (q_load1D ck_3 rfl) ?_
    refine KO.loud rfl (OpL.callD rfl (h := md_Fits _ _)) ?_
    rintro _ _ ⟨_, ⟨rfl, rfl⟩, rfl⟩
    refine KO.q rfl (q_not rfl) ?_
    refine KO.q rfl (q_pickT rfl rfl) ?_
    refine KO.q rfl (q_assign rfl) ?_
    refine KO.done ?_
    refine K.ret (fn := Tryz.f86) Tryz.func86 (fun a w hk hs => res1 Tryz.results86 hk rfl) (fun w hs => ?_)
    exact ⟨_, [pv b 100 y.cells], rfl, ⟨by simp [*], rfl⟩, hs.fitD⟩
  · refine KO.skip rfl ?_
    refine KO.skip rfl ?_
    refine KO.skip rfl ?_
    refine KO.skip rfl ?_
    refine KO.skip rfl ?_
    refine KO.skip rfl ?_
    refine KO.q rfl (q_pickF rfl rfl) ?_
    refine KO.q rfl (q_assign rfl) ?_
    refine KO.done ?_
    refine K.ret (fn := Tryz.f86) Tryz.func86 (fun a w hk hs => res1 Tryz.results86 hk rfl) (fun w hs => ?_)
    exact ⟨_, [pv b 100 y.cells], rfl, ⟨by simp [*], rfl⟩, hs.fitD⟩
end Go.Proofs.YtcpkcjabmookmaaGreat.L
