/- Walks: the library's Insert on a lock's lists; who waits. -/
import Derived.Test.YtfpkeanimkgpaaaG6
namespace Go.Proofs.Ytfpkeanimkgpaaa.L
open Go Go.Proofs
attribute [local irreducible] pv fv pt fz RowF RowO rowP old pure_ elA
set_option maxRecDepth 100000
set_option linter.unusedSimpArgs false
set_option linter.unusedVariables false

theorem q_apartC {X : Fx} {E : Env} {L L1 : List HP} {d : Option Tmp} {ty : TypeId} {pos : String} {af : Array Edge} {gd : Option (Nat × Bool)} {x y : Operand} {ats : Array TypeId} {α : Type} {k : Kd α} {f : FuncId} {fn : Func} {tS tR e1 e ev bytes bv ov la ca lb cb cap j : Nat} {q : Option Addr} {cs : List Value} {xs : List α} (hf : X.P.funcs[f]? = some fn) (hname : (fn.name == "runtime.NumGoroutine") = false) (hb : fn.body.isNone = true) (hn : Extern.findNext fn = none)
    (he : Extern.find fn = some (Extern.SlicesOverlaps.overlaps #[tS, tS] #[tR])) (ht : slElem X.P tS = some (e1, k.sz, bytes)) (hx : Env.ev E x = some (.slice (some ⟨bv, ov, none⟩) la ca)) (hy : Env.ev E y = some (.slice (cutAddr q cap j k.sz) lb cb))
    (hp : Pick L (pv bv ev cs) L1) (m : RowO k e q cap xs ∈ L1) (hne : xs ≠ []) (hj : j < cap) (hk0 : 0 < k.sz) :
    OpQ X ⟨d, .call ⟨.value (.func f), [x, y].toArray, ats⟩, ty, pos, af, gd⟩ E L (.bool false) :=
  OpQ.when (fun w hs => rowO_addr m hne w (hs.pick hp).tail) (fun ⟨b, o, hq⟩ => by
    subst hq
    rw [cutAddr_in hj] at hy
    exact q_apart hf hname hb hn he ht hx hy hp m (by omega) hk0)
section
variable {α : Type} {l : List α} {i : Nat} {x z : α}
theorem ins_grow1 (hi : i ≤ l.length) : (l.take i ++ List.replicate (l.length + 1 - i) z).take i ++ [x].take 1 ++ (l.take i ++ List.replicate (l.length + 1 - i) z).drop (i + 1) = l.take i ++ [x] ++ List.replicate (l.length - i) z := by
  have e : (l.take i).length = i := by rw [List.length_take]; omega
  rw [List.take_left' e, List.drop_append, e, List.drop_of_length_le (by omega), List.nil_append, List.drop_replicate, show l.length + 1 - i - (i + 1 - i) = l.length - i by omega]
  rfl
theorem ins_grow2 (hi : i ≤ l.length) : (l.take i ++ [x] ++ List.replicate (l.length - i) z).take (i + 1) ++ (l.drop i).take (l.length - i) ++ (l.take i ++ [x] ++ List.replicate (l.length - i) z).drop (i + 1 + (l.length - i)) = l.take i ++ [x] ++ l.drop i := by
  have e : (l.take i ++ [x]).length = i + 1 := by rw [List.length_append, List.length_take, List.length_singleton]; omega
  rw [List.take_left' e, List.drop_of_length_le (l := l.take i ++ [x] ++ List.replicate (l.length - i) z) (by rw [List.length_append, e, List.length_replicate]; omega), List.append_nil, List.take_of_length_le (l := l.drop i) (by rw [List.length_drop]; omega)]
theorem ins_room1 (hi : i < l.length) : l.take (i + 1) ++ (l.drop i).take (l.length - i) ++ l.drop (i + 1 + (l.length - i)) = l.take (i + 1) ++ l.drop i := by
  rw [List.drop_of_length_le (i := i + 1 + (l.length - i)) (by omega), List.append_nil, List.take_of_length_le (l := l.drop i) (by rw [List.length_drop]; omega)]
theorem ins_room2 (hi : i < l.length) : (l.take (i + 1) ++ l.drop i).take i ++ [x].take 1 ++ (l.take (i + 1) ++ l.drop i).drop (i + 1) = l.take i ++ [x] ++ l.drop i := by
  have e : (l.take (i + 1)).length = i + 1 := by rw [List.length_take]; omega
  rw [List.drop_left' e, List.take_append_of_le_length (by omega), List.take_take, show min i (i + 1) = i by omega]
  rfl
end
set_option maxHeartbeats 1600000 in
theorem ins_one (q : Option Addr) (cap : Nat) (l : List One) (i : Nat) (bv ev : Nat) (x : One) (hi : i ≤ l.length) (hc : l.length ≤ cap) (hb : l.length ≤ 1000000000) : Fn Try.prog 94 [.slice q l.length cap, .int .i64 i, .slice (some ⟨bv, 0, none⟩) 1 1].toArray [RowO Kd.one1 94 q cap l, pv bv ev x.cells]
    (fun r post => ∃ q' cap', r = .slice q' (l.length + 1) cap' ∧ post = [RowO Kd.one1 94 q' cap' (l.take i ++ [x] ++ l.drop i)]) := by
  refine Fn.enter (N := 95) Try.func94 rfl Try.ntmps94 (by kernel_rfl) rfl (fun ρ L => ?_)
  refine K.seq ?_
  refine K.region ?_
  refine KO.q rfl (q_assign rfl) ?_
  refine KO.done ?_
  refine K.seq ?_
  refine K.region ?_
  refine KO.q rfl (q_move rfl) ?_
  refine KO.q rfl (q_move rfl) ?_
  refine KO.q rfl (q_cutL se_46 rfl rfl (by first | omega | (simp; omega)) (by first | omega | (simp; omega)) (by first | omega | (simp; omega))) ?_
  refine KO.done ?_
  refine K.seq ?_
  refine K.region ?_
  refine KO.q rfl (q_move rfl) ?_
  refine KO.q rfl (q_len Try.underlying46 rfl) ?_
  refine KO.q rfl (q_assign rfl) ?_
  refine KO.done ?_
  refine K.seq <| K.seq ?_
  refine K.region ?_
  refine KO.q rfl (q_move rfl) ?_
  refine KO.q rfl (q_eqF rfl rfl (by decide)) ?_
  refine KO.done ?_
  refine K.no rfl ?_
  refine K.skip <| K.seq ?_
  refine K.region ?_
  refine KO.q rfl (q_move rfl) ?_
  refine KO.q rfl (q_len Try.underlying46 rfl) ?_
  refine KO.q rfl (q_assign rfl) ?_
  refine KO.done ?_
  refine K.seq <| K.seq ?_
  refine K.region ?_
  refine KO.q rfl (q_move rfl) ?_
  refine KO.q rfl (q_move rfl) ?_
  refine KO.q rfl (q_eq rfl rfl) ?_
  refine KO.done ?_
  refine K.dcond (s := 22) rfl (fun g22 => ?_) (fun g22 => ?_)
  · have hil : i = l.length := by omega
    have hins : l.take i ++ [x] ++ l.drop i = l ++ [x] := by subst hil; simp
    refine K.seq ?_
    refine K.region ?_
    refine KO.q rfl (q_move rfl) ?_
    refine KO.q rfl (q_move rfl) ?_
    refine KO.loud rfl (l_append Kd.one1 se_46 Try.underlying46 ⟨_, ze_94, rfl⟩ (by decide) rfl rfl (by repeat (first | exact Pick.here | apply Pick.there)) isP (by repeat (first | exact List.Mem.head _ | apply List.Mem.tail)) rfl rfl (by first | omega | (simp; omega) | (simp; done))) ?_
    rintro _ _ ⟨px, capx, rfl, rfl⟩
    refine KO.q rfl (q_assign rfl) ?_
    refine KO.done ?_
    refine K.ret (fn := Try.f94) Try.func94 (fun a w hk hs => res1 Try.results94 hk rfl) (fun w hs => ?_)
    first
      | exact ⟨_, [RowO Kd.one1 94 px capx (l ++ [x])], rfl, ⟨px, capx, by simp, by rw [hins]⟩, hs.fitD⟩
      | exact ⟨_, [RowO Kd.one1 94 (some ⟨bn, 0, none⟩) capn (l.take i ++ [x] ++ l.drop i)], rfl, ⟨_, _, congrArg (fun n => Value.slice _ n _) (by omega), rfl⟩, hs.fitD⟩
      | exact ⟨_, [RowO Kd.one1 94 q cap (l.take i ++ [x] ++ l.drop i)], rfl, ⟨q, cap, congrArg (fun n => Value.slice _ n _) (by omega), rfl⟩, hs.fitD⟩
  · refine K.skip <| K.seq <| K.seq ?_
    refine K.region ?_
    refine KO.q rfl (q_move rfl) ?_
    refine KO.q rfl (q_move rfl) ?_
    refine KO.q rfl (q_add rfl rfl (by first | omega | (simp; omega)) (by first | omega | (simp; omega))) ?_
    refine KO.q rfl (q_move rfl) ?_
    refine KO.q rfl (q_cap Try.underlying46 rfl) ?_
    refine KO.q rfl (q_gt rfl rfl) ?_
    refine KO.done ?_
    refine K.dcond (s := 31) rfl (fun g31 => ?_) (fun g31 => ?_)
    · have hil : i < l.length := by omega
      refine K.seq ?_
      refine K.region ?_
      refine KO.q rfl (q_move rfl) ?_
      refine KO.q rfl (q_move rfl) ?_
      refine KO.q rfl (q_cutH se_46 rfl rfl (by first | omega | (simp; omega)) (by first | omega | (simp; omega))) ?_
      refine KO.q rfl (q_move rfl) ?_
      refine KO.q rfl (q_move rfl) ?_
      refine KO.q rfl (q_add rfl rfl (by first | omega | (simp; omega)) (by first | omega | (simp; omega))) ?_
      refine KO.q rfl (q_move rfl) ?_
      refine KO.q rfl (q_sub rfl rfl (by first | omega | (simp; omega)) (by first | omega | (simp; omega))) ?_
      refine KO.loud rfl (l_growPre (i := i) (n := l.length + 1 - i) Kd.one1 ⟨0, 0⟩ se_46 Try.underlying3 ze_94 rfl (fun _ => rfl) rfl (congrArg (fun z => some (Value.int .i64 z)) (show (l.length : Int) + ((1 : Nat) : Int) - i = ((l.length + 1 - i : Nat) : Int) by omega)) (by repeat (first | exact Pick.here | apply Pick.there)) hi (by omega) (by omega) (by decide) (by decide) (by omega)) ?_
      rintro _ _ ⟨bn, capn, rfl, rfl⟩
      refine KO.fact (fun w h => rowO_cap List.mem_cons_self w h) (fun hcn => ?_)
      rw [List.length_append, List.length_take, List.length_replicate] at hcn
      refine KO.q rfl (q_assign rfl) ?_
      refine KO.done ?_
      refine K.seq ?_
      refine K.region ?_
      refine KO.q rfl (q_move rfl) ?_
      refine KO.q rfl (q_move rfl) ?_
      refine KO.q rfl (q_cutL se_46 rfl rfl (by first | omega | (simp; omega)) (by first | omega | (simp; omega)) (by first | omega | (simp; omega))) ?_
      refine KO.q rfl (q_move rfl) ?_
      refine KO.loud rfl (l_copyA (i := i) (m := 1) Kd.one1 se_46 rfl rfl (by repeat (first | exact Pick.here | apply Pick.there)) isP (by repeat (first | exact List.Mem.head _ | apply List.Mem.tail)) rfl (Nat.min_eq_left (by omega)) (by rw [List.length_append, List.length_take, List.length_replicate]; omega) (by omega) (by omega)) ?_
      rintro _ _ ⟨rfl, rfl⟩
      refine KO.done ?_
      rw [ins_grow1 hi]
      refine K.seq ?_
      refine K.draw [] mixed ?_
      refine D.q 0 rfl (by kernel_rfl) (by kernel_rfl) (q_move rfl) (fun _ h => h.nil) ?_
      refine D.q 1 rfl (by kernel_rfl) (by kernel_rfl) (q_move rfl) (fun _ h => h.nil) ?_
      refine D.q 2 rfl (by kernel_rfl) (by kernel_rfl) (q_move rfl) (fun _ h => h.nil) ?_
      refine D.q 3 rfl (by kernel_rfl) (by kernel_rfl) (q_add rfl rfl (by first | omega | (simp; omega)) (by first | omega | (simp; omega))) (fun _ h => h.nil) ?_
      refine D.q 4 rfl (by kernel_rfl) (by kernel_rfl) (q_cutL se_46 rfl rfl (by first | omega | (simp; omega)) (by first | omega | (simp; omega)) (by first | omega | (simp; omega))) (fun _ h => h.nil) ?_
      refine D.q 5 rfl (by kernel_rfl) (by kernel_rfl) (q_move rfl) (fun _ h => h.nil) ?_
      refine D.q 6 rfl (by kernel_rfl) (by kernel_rfl) (q_move rfl) (fun _ h => h.nil) ?_
      refine D.q 7 rfl (by kernel_rfl) (by kernel_rfl) (q_cutL se_46 rfl rfl (by first | omega | (simp; omega)) (by first | omega | (simp; omega)) (by first | omega | (simp; omega))) (fun _ h => h.nil) ?_
      refine D.all (rs := [8]) (by kernel_rfl) rfl (DAll.cons rfl (by kernel_rfl) (l_copyA (i := i + 1) (m := l.length - i) Kd.one1 se_46 rfl rfl (by repeat (first | exact Pick.here | apply Pick.there)) (isO_cut i) (by repeat (first | exact List.Mem.head _ | apply List.Mem.tail)) (by rw [List.length_drop]; omega) (by show min _ _ = _; omega) (by rw [List.length_append, List.length_append, List.length_take, List.length_replicate, List.length_singleton]; omega) (by omega) (by omega)) (.inr (fun _ _ _ _ h => h.nil)) rfl ?_ DAll.nil)
      rintro _ _ ⟨rfl, rfl⟩
      refine D.done (by kernel_rfl) ?_
      rw [ins_grow2 hi]
      refine K.seq ?_
      refine K.region ?_
      refine KO.q rfl (q_move rfl) ?_
      refine KO.q rfl (q_assign rfl) ?_
      refine KO.done ?_
      refine K.ret (fn := Try.f94) Try.func94 (fun a w hk hs => res1 Try.results94 hk rfl) (fun w hs => ?_)
      first
        | exact ⟨_, [RowO Kd.one1 94 px capx (l ++ [x])], rfl, ⟨px, capx, by simp, by rw [hins]⟩, hs.fitD⟩
        | exact ⟨_, [RowO Kd.one1 94 (some ⟨bn, 0, none⟩) capn (l.take i ++ [x] ++ l.drop i)], rfl, ⟨_, _, congrArg (fun n => Value.slice _ n _) (by omega), rfl⟩, hs.fitD⟩
        | exact ⟨_, [RowO Kd.one1 94 q cap (l.take i ++ [x] ++ l.drop i)], rfl, ⟨q, cap, congrArg (fun n => Value.slice _ n _) (by omega), rfl⟩, hs.fitD⟩
    · have hil : i < l.length := by omega
      refine K.skip <| K.seq ?_
      refine K.region ?_
      refine KO.q rfl (q_move rfl) ?_
      refine KO.q rfl (q_move rfl) ?_
      refine KO.q rfl (q_move rfl) ?_
      refine KO.q rfl (q_add rfl rfl (by first | omega | (simp; omega)) (by first | omega | (simp; omega))) ?_
      refine KO.q rfl (q_cutH se_46 rfl rfl (by first | omega | (simp; omega)) (by first | omega | (simp; omega))) ?_
      refine KO.q rfl (q_assign rfl) ?_
      refine KO.done ?_
      refine K.seq <| K.seq ?_
      refine K.region ?_
      refine KO.q rfl (q_move rfl) ?_
      refine KO.q rfl (q_move rfl) ?_
      refine KO.q rfl (q_move rfl) ?_
      refine KO.q rfl (q_move rfl) ?_
      refine KO.q rfl (q_add rfl rfl (by first | omega | (simp; omega)) (by first | omega | (simp; omega))) ?_
      refine KO.q rfl (q_cutL se_46 rfl rfl (by first | omega | (simp; omega)) (by first | omega | (simp; omega)) (by first | omega | (simp; omega))) ?_
      refine KO.q rfl (q_apartC (j := i + 1) (k := Kd.one1) (xs := l) Try.func113 (by decide +kernel) rfl (by decide +kernel) (by rfl) se_46 rfl rfl (by repeat (first | exact Pick.here | apply Pick.there)) (by repeat (first | exact List.Mem.head _ | apply List.Mem.tail)) (by intro hz; rw [hz] at hil; exact absurd hil (Nat.not_lt_zero _)) (by omega) (by decide)) ?_
      refine KO.q rfl (q_not rfl) ?_
      refine KO.done ?_
      refine K.bcond (s := 68) rfl (fun g68 => ?_) (fun g68 => ?_)
      · refine K.seq ?_
        refine K.draw [] mixed ?_
        refine D.q 0 rfl (by kernel_rfl) (by kernel_rfl) (q_move rfl) (fun _ h => h.nil) ?_
        refine D.q 1 rfl (by kernel_rfl) (by kernel_rfl) (q_move rfl) (fun _ h => h.nil) ?_
        refine D.q 2 rfl (by kernel_rfl) (by kernel_rfl) (q_move rfl) (fun _ h => h.nil) ?_
        refine D.q 3 rfl (by kernel_rfl) (by kernel_rfl) (q_add rfl rfl (by first | omega | (simp; omega)) (by first | omega | (simp; omega))) (fun _ h => h.nil) ?_
        refine D.q 4 rfl (by kernel_rfl) (by kernel_rfl) (q_cutL se_46 rfl rfl (by first | omega | (simp; omega)) (by first | omega | (simp; omega)) (by first | omega | (simp; omega))) (fun _ h => h.nil) ?_
        refine D.q 5 rfl (by kernel_rfl) (by kernel_rfl) (q_move rfl) (fun _ h => h.nil) ?_
        refine D.q 6 rfl (by kernel_rfl) (by kernel_rfl) (q_move rfl) (fun _ h => h.nil) ?_
        refine D.q 7 rfl (by kernel_rfl) (by kernel_rfl) (q_cutL se_46 rfl rfl (by first | omega | (simp; omega)) (by first | omega | (simp; omega)) (by first | omega | (simp; omega))) (fun _ h => h.nil) ?_
        refine D.all (rs := [8]) (by kernel_rfl) rfl (DAll.cons rfl (by kernel_rfl) (l_copyS (i := i + 1) (s0 := i) (m := l.length - i) Kd.one1 se_46 rfl rfl (by repeat (first | exact Pick.here | apply Pick.there)) (by show min _ _ = _; omega) (by omega) (by omega) (by omega) (by omega)) (.inr (fun _ _ _ _ h => h.nil)) rfl ?_ DAll.nil)
        rintro _ _ ⟨rfl, rfl⟩
        refine D.done (by kernel_rfl) ?_
        rw [ins_room1 hil]
        refine K.seq ?_
        refine K.region ?_
        refine KO.q rfl (q_move rfl) ?_
        refine KO.q rfl (q_move rfl) ?_
        refine KO.q rfl (q_cutL se_46 rfl rfl (by first | omega | (simp; omega)) (by first | omega | (simp; omega)) (by first | omega | (simp; omega))) ?_
        refine KO.q rfl (q_move rfl) ?_
        refine KO.loud rfl (l_copyA (i := i) (m := 1) Kd.one1 se_46 rfl rfl (by repeat (first | exact Pick.here | apply Pick.there)) isP (by repeat (first | exact List.Mem.head _ | apply List.Mem.tail)) rfl (Nat.min_eq_left (by omega)) (by rw [List.length_append, List.length_take, List.length_drop]; omega) (by omega) (by omega)) ?_
        rintro _ _ ⟨rfl, rfl⟩
        refine KO.done ?_
        rw [ins_room2 hil]
        refine K.seq ?_
        refine K.region ?_
        refine KO.q rfl (q_move rfl) ?_
        refine KO.q rfl (q_assign rfl) ?_
        refine KO.done ?_
        refine K.ret (fn := Try.f94) Try.func94 (fun a w hk hs => res1 Try.results94 hk rfl) (fun w hs => ?_)
        first
          | exact ⟨_, [RowO Kd.one1 94 px capx (l ++ [x])], rfl, ⟨px, capx, by simp, by rw [hins]⟩, hs.fitD⟩
          | exact ⟨_, [RowO Kd.one1 94 (some ⟨bn, 0, none⟩) capn (l.take i ++ [x] ++ l.drop i)], rfl, ⟨_, _, congrArg (fun n => Value.slice _ n _) (by omega), rfl⟩, hs.fitD⟩
          | exact ⟨_, [RowO Kd.one1 94 q cap (l.take i ++ [x] ++ l.drop i)], rfl, ⟨q, cap, congrArg (fun n => Value.slice _ n _) (by omega), rfl⟩, hs.fitD⟩
      · exact absurd g68 (by decide)
end Go.Proofs.Ytfpkeanimkgpaaa.L
