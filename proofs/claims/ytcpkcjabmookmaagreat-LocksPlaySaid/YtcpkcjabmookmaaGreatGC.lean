/- Walks: the library's Insert on a lock's lists; who waits. Walks: a lock: who waits; asking. Walks: a lock: freeing. -/
import Derived.Test.YtcpkcjabmookmaaGreatGB
import Derived.Test.YtcpkcjabmookmaaGreatGA
/-! Walks: the library's Insert on a lock's lists; who waits. -/
namespace Go.Proofs.YtcpkcjabmookmaaGreat.L
open Go Go.Proofs
attribute [local irreducible] pv fv pt fz RowF RowO rowP old pure_ elA
set_option maxRecDepth 100000
set_option linter.unusedSimpArgs false
set_option linter.unusedVariables false

theorem q_apartC {X : Fx} {E : Env} {L L1 : List HP} {d : Option Tmp} {ty : TypeId} {pos : String} {af : Array Edge} {gd : Option (Nat × Bool)} {x y : Operand} {ats : Array TypeId} {α : Type} {k : Kd α} {f : FuncId} {fn : Func} {tS tR e1 e ev bytes bv ov la ca lb cb cap j : Nat} {q : Option Addr} {cs : List Value} {xs : List α} (hf : X.P.funcs[f]? = some fn) (hname : (fn.name == "runtime.NumGoroutine") = false) (hb : fn.body.isNone = true) (hn : Extern.findNext fn = none)
    (he : Extern.find fn = some (Extern.SlicesOverlaps.overlaps #[tS, tS] #[tR])) (ht : slElem X.P tS = some (e1, k.sz, bytes)) (hx : Env.ev E x = some (.slice (some ⟨bv, ov, none⟩) la ca)) (hy : Env.ev E y = some (.slice (cutAddr q cap j k.sz) lb cb))
    (hp : Pick L (pv bv ev cs) L1) (m : RowO k e q cap xs ∈ L1) (hne : xs ≠ []) (hj : j < cap) (hk0 : 0 < k.sz) :
    OpQ X ⟨d, .call ⟨.value (.func f), [x, y].toArray, ats⟩, ty, pos, af, gd⟩ E L (.bool false) :=
  OpQ.when (fun w hs => rowO_addr m hne w (hs.pick hp).tail) (fun ⟨b, o, hq⟩ => by
    subst hq
    rw [cutAddr_in hj] at hy
    exact q_apart hf hname hb hn he ht hx hy hp m (by omega) hk0)
section
variable {α : Type} {l : List α} {i : Nat} {x z : α}
theorem ins_grow1 (hi : i ≤ l.length) : (l.take i ++ List.replicate (l.length + 1 - i) z).take i ++ [x].take 1 ++ (l.take i ++ List.replicate (l.length + 1 - i) z).drop (i + 1) = l.take i ++ [x] ++ List.replicate (l.length - i) z := by
  have e : (l.take i).length = i := by rw [List.length_take]; omega
  rw [List.take_left' e, List.drop_append, e, List.drop_of_length_le (by omega), List.nil_append, List.drop_replicate, show l.length + 1 - i - (i + 1 - i) = l.length - i by omega]
  rfl
theorem ins_grow2 (hi : i ≤ l.length) : (l.take i ++ [x] ++ List.replicate (l.length - i) z).take (i + 1) ++ (l.drop i).take (l.length - i) ++ (l.take i ++ [x] ++ List.replicate (l.length - i) z).drop (i + 1 + (l.length - i)) = l.take i ++ [x] ++ l.drop i := by
  have e : (l.take i ++ [x]).length = i + 1 := by rw [List.length_append, List.length_take, List.length_singleton]; omega
  rw [List.take_left' e, List.drop_of_length_le (l := l.take i ++ [x] ++ List.replicate (l.length - i) z) (by rw [List.length_append, e, List.length_replicate]; omega), List.append_nil, List.take_of_length_le (l := l.drop i) (by rw [List.length_drop]; omega)]
theorem ins_room1 (hi : i < l.length) : l.take (i + 1) ++ (l.drop i).take (l.length - i) ++ l.drop (i + 1 + (l.length - i)) = l.take (i + 1) ++ l.drop i := by
  rw [List.drop_of_length_le (i := i + 1 + (l.length - i)) (by omega), List.append_nil, List.take_of_length_le (l := l.drop i) (by rw [List.length_drop]; omega)]
theorem ins_room2 (hi : i < l.length) : (l.take (i + 1) ++ l.drop i).take i ++ [x].take 1 ++ (l.take (i + 1) ++ l.drop i).drop (i + 1) = l.take i ++ [x] ++ l.drop i := by
  have e : (l.take (i + 1)).length = i + 1 := by rw [List.length_take]; omega
  rw [List.drop_left' e, List.take_append_of_le_length (by omega), List.take_take, show min i (i + 1) = i by omega]
  rfl
end
set_option maxHeartbeats 1600000 in
theorem ins_one (q : Option Addr) (cap : Nat) (l : List One) (i : Nat) (bv ev : Nat) (x : One) (hi : i ≤ l.length) (hc : l.length ≤ cap) (hb : l.length ≤ 1000000000) : Fn Tryz.prog 87 [.slice q l.length cap, .int .i64 i, .slice (some ⟨bv, 0, none⟩) 1 1].toArray [RowO Kd.one1 100 q cap l, pv bv ev x.cells]
    (fun r post => ∃ q' cap', r = .slice q' (l.length + 1) cap' ∧ post = [RowO Kd.one1 100 q' cap' (l.take i ++ [x] ++ l.drop i)]) := by
  refine Fn.enter (N := 95) Tryz.func87 rfl Tryz.ntmps87 (by kernel_rfl) rfl (fun ρ L => ?_)
  refine K.seq ?_
  refine K.region ?_
  refine KO.q rfl (q_assign rfl) ?_
  refine KO.done ?_
  refine K.seq ?_
  refine K.region ?_
  refine KO.q rfl (q_move rfl) ?_
  refine KO.q rfl (q_move rfl) ?_
  refine KO.q rfl (q_cutL se_66 rfl rfl (by first | omega | (simp; omega)) (by first | omega | (simp; omega)) (by first | omega | (simp; omega))) ?_
  refine KO.done ?_
  refine K.seq ?_
  refine K.region ?_
  refine KO.q rfl (q_move rfl) ?_
  refine KO.q rfl (q_len Tryz.underlying66 rfl) ?_
  refine KO.q rfl (q_assign rfl) ?_
  refine KO.done ?_
  refine K.seq <| K.seq ?_
  refine K.region ?_
  refine KO.q rfl (q_move rfl) ?_
  refine KO.q rfl (q_eqF rfl rfl (by decide)) ?_
  refine KO.done ?_
  refine K.no rfl ?_
  refine K.skip <| K.seq ?_
  refine K.region ?_
  refine KO.q rfl (q_move rfl) ?_
  refine KO.q rfl (q_len Tryz.underlying66 rfl) ?_
  refine KO.q rfl (q_assign rfl) ?_
  refine KO.done ?_
  refine K.seq <| K.seq ?_
  refine K.region ?_
  refine KO.q rfl (q_move rfl) ?_
  refine KO.q rfl (q_move rfl) ?_
  refine KO.q rfl (q_eq rfl rfl) ?_
  refine KO.done ?_
  refine K.dcond (s := 22) rfl (fun g22 => ?_) (fun g22 => ?_)
  · have hil : i = l.length := by omega
    have hins : l.take i ++ [x] ++ l.drop i = l ++ [x] := by subst hil; simp
    refine K.seq ?_
    refine K.region ?_
    refine KO.q rfl (q_move rfl) ?_
    refine KO.q rfl (q_move rfl) ?_
    refine KO.loud rfl (l_append Kd.one1 se_66 Tryz.underlying66 ⟨_, ze_100, rfl⟩ (by decide) rfl rfl (by repeat (first | exact Pick.here | apply Pick.there)) isP (by repeat (first | exact List.Mem.head _ | apply List.Mem.tail)) rfl rfl (by first | omega | (simp; omega) | (simp; done))) ?_
    rintro _ _ ⟨px, capx, rfl, rfl⟩
    refine KO.q rfl (q_assign rfl) ?_
    refine KO.done ?_
    refine K.ret (fn := Tryz.f87) Tryz.func87 (fun a w hk hs => res1 Tryz.results87 hk rfl) (fun w hs => ?_)
    first
      | exact ⟨_, [RowO Kd.one1 100 px capx (l ++ [x])], rfl, ⟨px, capx, by simp, by rw [hins]⟩, hs.fitD⟩
      | exact ⟨_, [RowO Kd.one1 100 (some ⟨bn, 0, none⟩) capn (l.take i ++ [x] ++ l.drop i)], rfl, ⟨_, _, congrArg (fun n => Value.slice _ n _) (by omega), rfl⟩, hs.fitD⟩
      | exact ⟨_, [RowO Kd.one1 100 q cap (l.take i ++ [x] ++ l.drop i)], rfl, ⟨q, cap, congrArg (fun n => Value.slice _ n _) (by omega), rfl⟩, hs.fitD⟩
  · refine K.skip <| K.seq <| K.seq ?_
    refine K.region ?_
    refine KO.q rfl (q_move rfl) ?_
    refine KO.q rfl (q_move rfl) ?_
    refine KO.q rfl (q_add rfl rfl (by first | omega | (simp; omega)) (by first | omega | (simp; omega))) ?_
    refine KO.q rfl (q_move rfl) ?_
    refine KO.q rfl (q_cap Tryz.underlying66 rfl) ?_
    refine KO.q rfl (q_gt rfl rfl) ?_
    refine KO.done ?_
    refine K.dcond (s := 31) rfl (fun g31 => ?_) (fun g31 => ?_)
    · have hil : i < l.length := by omega
      refine K.seq ?_
      refine K.region ?_
      refine KO.q rfl (q_move rfl) ?_
      refine KO.q rfl (q_move rfl) ?_
      refine KO.q rfl (q_cutH se_66 rfl rfl (by first | omega | (simp; omega)) (by first | omega | (simp; omega))) ?_
      refine KO.q rfl (q_move rfl) ?_
      refine KO.q rfl (q_move rfl) ?_
      refine KO.q rfl (q_add rfl rfl (by first | omega | (simp; omega)) (by first | omega | (simp; omega))) ?_
      refine KO.q rfl (q_move rfl) ?_
      refine KO.q rfl (q_sub rfl rfl (by first | omega | (simp; omega)) (by first | omega | (simp; omega))) ?_
      refine KO.loud rfl (l_growPre (i := i) (n := l.length + 1 - i) Kd.one1 ⟨0, 0⟩ se_66 Tryz.underlying3 ze_100 rfl (fun _ => rfl) rfl (congrArg (fun z => some (Value.int .i64 z)) (show (l.length : Int) + ((1 : Nat) : Int) - i = ((l.length + 1 - i : Nat) : Int) by omega)) (by repeat (first | exact Pick.here | apply Pick.there)) hi (by omega) (by omega) (by decide) (by decide) (by omega)) ?_
      rintro _ _ ⟨bn, capn, rfl, rfl⟩
      refine KO.fact (fun w h => rowO_cap List.mem_cons_self w h) (fun hcn => ?_)
      rw [List.length_append, List.length_take, List.length_replicate] at hcn
      refine KO.q rfl (q_assign rfl) ?_
      refine KO.done ?_
      refine K.seq ?_
      refine K.region ?_
      refine KO.q rfl (q_move rfl) ?_
      refine KO.q rfl (q_move rfl) ?_
      refine KO.q rfl (q_cutL se_66 rfl rfl (by first | omega | (simp; omega)) (by first | omega | (simp; omega)) (by first | omega | (simp; omega))) ?_
      refine KO.q rfl (q_move rfl) ?_
      refine KO.loud rfl (l_copyA (i := i) (m := 1) Kd.one1 se_66 rfl rfl (by repeat (first | exact Pick.here | apply Pick.there)) isP (by repeat (first | exact List.Mem.head _ | apply List.Mem.tail)) rfl (Nat.min_eq_left (by omega)) (by rw [List.length_append, List.length_take, List.length_replicate]; omega) (by omega) (by omega)) ?_
      rintro _ _ ⟨rfl, rfl⟩
      refine KO.done ?_
      rw [ins_grow1 hi]
      refine K.seq ?_
      refine K.draw [] mixed ?_
      refine D.q 0 rfl (by kernel_rfl) (by kernel_rfl) (q_move rfl) (fun _ h => h.nil) ?_
      refine D.q 1 rfl (by kernel_rfl) (by kernel_rfl) (q_move rfl) (fun _ h => h.nil) ?_
      refine D.q 2 rfl (by kernel_rfl) (by kernel_rfl) (q_move rfl) (fun _ h => h.nil) ?_
      refine D.q 3 rfl (by kernel_rfl) (by kernel_rfl) (q_add rfl rfl (by first | omega | (simp; omega)) (by first | omega | (simp; omega))) (fun _ h => h.nil) ?_
      refine D.q 4 rfl (by kernel_rfl) (by kernel_rfl) (q_cutL se_66 rfl rfl (by first | omega | (simp; omega)) (by first | omega | (simp; omega)) (by first | omega | (simp; omega))) (fun _ h => h.nil) ?_
      refine D.q 5 rfl (by kernel_rfl) (by kernel_rfl) (q_move rfl) (fun _ h => h.nil) ?_
      refine D.q 6 rfl (by kernel_rfl) (by kernel_rfl) (q_move rfl) (fun _ h => h.nil) ?_
      refine D.q 7 rfl (by kernel_rfl) (by kernel_rfl) (q_cutL se_66 rfl rfl (by first | omega | (simp; omega)) (by first | omega | (simp; omega)) (by first | omega | (simp; omega))) (fun _ h => h.nil) ?_
      refine D.all (rs := [8]) (by kernel_rfl) rfl (DAll.cons rfl (by kernel_rfl) (l_copyA (i := i + 1) (m := l.length - i) Kd.one1 se_66 rfl rfl (by repeat (first | exact Pick.here | apply Pick.there)) (isO_cut i) (by repeat (first | exact List.Mem.head _ | apply List.Mem.tail)) (by rw [List.length_drop]; omega) (by show min _ _ = _; omega) (by rw [List.length_append, List.length_append, List.length_take, List.length_replicate, List.length_singleton]; omega) (by omega) (by omega)) (.inr (fun _ _ _ _ h => h.nil)) rfl ?_ DAll.nil)
      rintro _ _ ⟨rfl, rfl⟩
      refine D.done (by kernel_rfl) ?_
      rw [ins_grow2 hi]
      refine K.seq ?_
      refine K.region ?_
      refine KO.q rfl (q_move rfl) ?_
      refine KO.q rfl (q_assign rfl) ?_
      refine KO.done ?_
      refine K.ret (fn := Tryz.f87) Tryz.func87 (fun a w hk hs => res1 Tryz.results87 hk rfl) (fun w hs => ?_)
      first
        | exact ⟨_, [RowO Kd.one1 100 px capx (l ++ [x])], rfl, ⟨px, capx, by simp, by rw [hins]⟩, hs.fitD⟩
        | exact ⟨_, [RowO Kd.one1 100 (some ⟨bn, 0, none⟩) capn (l.take i ++ [x] ++ l.drop i)], rfl, ⟨_, _, congrArg (fun n => Value.slice _ n _) (by omega), rfl⟩, hs.fitD⟩
        | exact ⟨_, [RowO Kd.one1 100 q cap (l.take i ++ [x] ++ l.drop i)], rfl, ⟨q, cap, congrArg (fun n => Value.slice _ n _) (by omega), rfl⟩, hs.fitD⟩
    · have hil : i < l.length := by omega
      refine K.skip <| K.seq ?_
      refine K.region ?_
      refine KO.q rfl (q_move rfl) ?_
      refine KO.q rfl (q_move rfl) ?_
      refine KO.q rfl (q_move rfl) ?_
      refine KO.q rfl (q_add rfl rfl (by first | omega | (simp; omega)) (by first | omega | (simp; omega))) ?_
      refine KO.q rfl (q_cutH se_66 rfl rfl (by first | omega | (simp; omega)) (by first | omega | (simp; omega))) ?_
      refine KO.q rfl (q_assign rfl) ?_
      refine KO.done ?_
      refine K.seq <| K.seq ?_
      refine K.region ?_
      refine KO.q rfl (q_move rfl) ?_
      refine KO.q rfl (q_move rfl) ?_
      refine KO.q rfl (q_move rfl) ?_
      refine KO.q rfl (q_move rfl) ?_
      refine KO.q rfl (q_add rfl rfl (by first | omega | (simp; omega)) (by first | omega | (simp; omega))) ?_
      refine KO.q rfl (q_cutL se_66 rfl rfl (by first | omega | (simp; omega)) (by first | omega | (simp; omega)) (by first | omega | (simp; omega))) ?_
      refine KO.q rfl (q_apartC (j := i + 1) (k := Kd.one1) (xs := l) Tryz.func103 (by decide +kernel) rfl (by decide +kernel) (by rfl) se_66 rfl rfl (by repeat (first | exact Pick.here | apply Pick.there)) (by repeat (first | exact List.Mem.head _ | apply List.Mem.tail)) (by intro hz; rw [hz] at hil; exact absurd hil (Nat.not_lt_zero _)) (by omega) (by decide)) ?_
      refine KO.q rfl (q_not rfl) ?_
      refine KO.done ?_
      refine K.bcond (s := 68) rfl (fun g68 => ?_) (fun g68 => ?_)
      · refine K.seq ?_
        refine K.draw [] mixed ?_
        refine D.q 0 rfl (by kernel_rfl) (by kernel_rfl) (q_move rfl) (fun _ h => h.nil) ?_
        refine D.q 1 rfl (by kernel_rfl) (by kernel_rfl) (q_move rfl) (fun _ h => h.nil) ?_
        refine D.q 2 rfl (by kernel_rfl) (by kernel_rfl) (q_move rfl) (fun _ h => h.nil) ?_
        refine D.q 3 rfl (by kernel_rfl) (by kernel_rfl) (q_add rfl rfl (by first | omega | (simp; omega)) (by first | omega | (simp; omega))) (fun _ h => h.nil) ?_
        refine D.q 4 rfl (by kernel_rfl) (by kernel_rfl) (q_cutL se_66 rfl rfl (by first | omega | (simp; omega)) (by first | omega | (simp; omega)) (by first | omega | (simp; omega))) (fun _ h => h.nil) ?_
        refine D.q 5 rfl (by kernel_rfl) (by kernel_rfl) (q_move rfl) (fun _ h => h.nil) ?_
        refine D.q 6 rfl (by kernel_rfl) (by kernel_rfl) (q_move rfl) (fun _ h => h.nil) ?_
        refine D.q 7 rfl (by kernel_rfl) (by kernel_rfl) (q_cutL se_66 rfl rfl (by first | omega | (simp; omega)) (by first | omega | (simp; omega)) (by first | omega | (simp; omega))) (fun _ h => h.nil) ?_
        refine D.all (rs := [8]) (by kernel_rfl) rfl (DAll.cons rfl (by kernel_rfl) (l_copyS (i := i + 1) (s0 := i) (m := l.length - i) Kd.one1 se_66 rfl rfl (by repeat (first | exact Pick.here | apply Pick.there)) (by show min _ _ = _; omega) (by omega) (by omega) (by omega) (by omega)) (.inr (fun _ _ _ _ h => h.nil)) rfl ?_ DAll.nil)
        rintro _ _ ⟨rfl, rfl⟩
        refine D.done (by kernel_rfl) ?_
        rw [ins_room1 hil]
        refine K.seq ?_
        refine K.region ?_
        refine KO.q rfl (q_move rfl) ?_
        refine KO.q rfl (q_move rfl) ?_
        refine KO.q rfl (q_cutL se_66 rfl rfl (by first | omega | (simp; omega)) (by first | omega | (simp; omega)) (by first | omega | (simp; omega))) ?_
        refine KO.q rfl (q_move rfl) ?_
        refine KO.loud rfl (l_copyA (i := i) (m := 1) Kd.one1 se_66 rfl rfl (by repeat (first | exact Pick.here | apply Pick.there)) isP (by repeat (first | exact List.Mem.head _ | apply List.Mem.tail)) rfl (Nat.min_eq_left (by omega)) (by rw [List.length_append, List.length_take, List.length_drop]; omega) (by omega) (by omega)) ?_
        rintro _ _ ⟨rfl, rfl⟩
        refine KO.done ?_
        rw [ins_room2 hil]
        refine K.seq ?_
        refine K.region ?_
        refine KO.q rfl (q_move rfl) ?_
        refine KO.q rfl (q_assign rfl) ?_
        refine KO.done ?_
        refine K.ret (fn := Tryz.f87) Tryz.func87 (fun a w hk hs => res1 Tryz.results87 hk rfl) (fun w hs => ?_)
        first
          | exact ⟨_, [RowO Kd.one1 100 px capx (l ++ [x])], rfl, ⟨px, capx, by simp, by rw [hins]⟩, hs.fitD⟩
          | exact ⟨_, [RowO Kd.one1 100 (some ⟨bn, 0, none⟩) capn (l.take i ++ [x] ++ l.drop i)], rfl, ⟨_, _, congrArg (fun n => Value.slice _ n _) (by omega), rfl⟩, hs.fitD⟩
          | exact ⟨_, [RowO Kd.one1 100 q cap (l.take i ++ [x] ++ l.drop i)], rfl, ⟨q, cap, congrArg (fun n => Value.slice _ n _) (by omega), rfl⟩, hs.fitD⟩
      · exact absurd g68 (by decide)
end Go.Proofs.YtcpkcjabmookmaaGreat.L
/-! Walks: a lock: who waits; asking. -/
namespace Go.Proofs.YtcpkcjabmookmaaGreat.L
open Go Go.Proofs
attribute [local irreducible] pv fv pt fz RowF RowO rowP old pure_ elA
set_option maxRecDepth 100000
set_option linter.unusedSimpArgs false
set_option linter.unusedVariables false

def wAt (f : One → Bool) (l : List One) : Nat := (l.takeWhile f).length
theorem wAt_eq {f : One → Bool} {l : List One} {i : Nat} (ha : (l.take i).all f = true) (hi : i = l.length ∨ ∃ e, l[i]? = some e ∧ f e = false) : wAt f l = i := by
  unfold wAt
  rcases hi with hi | ⟨e, he, hf⟩
  · subst hi
    rw [List.take_length] at ha
    have := List.takeWhile_append_of_pos (p := f) (l₁ := l) (l₂ := []) (by simpa using ha)
    rw [List.append_nil, List.takeWhile_nil, List.append_nil] at this
    rw [this]
  · have hlt := (List.getElem?_eq_some_iff.1 he).1
    have hs : l = l.take i ++ e :: l.drop (i + 1) := by
      rw [List.getElem?_eq_some_iff] at he
      obtain ⟨h1, h2⟩ := he
      rw [← h2, ← List.drop_eq_getElem_cons h1, List.take_append_drop]
    rw [hs, List.takeWhile_append_of_pos (by simpa using ha), List.takeWhile_cons, if_neg (by simp [hf]), List.append_nil, List.length_take]
    omega
def Lk.waitAt (k : Lk) (who : Int) : Nat := if k.has who = true then wAt (fun y => k.has y.who) k.line else k.line.length
def Lk.wait (k : Lk) (x : One) : Lk := { k with line := k.line.take (k.waitAt x.who) ++ [x] ++ k.line.drop (k.waitAt x.who) }
theorem Lk.wait_len (k : Lk) (x : One) : (k.wait x).line.length = k.line.length + 1 := by
  have e : k.line.length = (k.line.take (k.waitAt x.who) ++ k.line.drop (k.waitAt x.who)).length := by rw [List.take_append_drop]
  show (k.line.take _ ++ [x] ++ k.line.drop _).length = _
  rw [e]
  simp only [List.length_append, List.length_singleton]
  omega
theorem Lk.waitAt_le (k : Lk) (who : Int) : k.waitAt who ≤ k.line.length := by
  unfold Lk.waitAt wAt
  split
  · exact (List.takeWhile_prefix _).length_le
  · exact Nat.le_refl _
--%call (*poste/grant.Lock).wait := lk_wait _ _ _ _ _ _ _ (by assumption) (by assumption) !! ⟨_, ⟨q#, c#, rfl, rfl⟩, rfl⟩
set_option maxHeartbeats 1600000 in
theorem lk_wait (b : Nat) (q1 : Option Addr) (c1 : Nat) (q2 : Option Addr) (c2 : Nat) (k : Lk) (x : One) (hl : k.hold.length ≤ 1000000000) (hl2 : k.line.length ≤ 1000000000) : Fn Tryz.prog 61 [.pointer (some ⟨b, 0, none⟩), .agg x.cells.toArray].toArray (LkL b q1 c1 q2 c2 k) (fun r post => ∃ q2' c2', r = .tuple #[] ∧ post = LkL b q1 c1 q2' c2' (k.wait x)) := by
  refine Fn.enter (N := 46) Tryz.func61 rfl Tryz.ntmps61 (by kernel_rfl) rfl (fun ρ L => ?_)
  refine K.seq ?_
  refine K.fact (fun w h => rowO_cap (e := 100) (k := Kd.one1) (p := q2) (cap := c2) (xs := k.line) (by repeat (first | exact List.Mem.head _ | apply List.Mem.tail)) w h) (fun hc2 => ?_)
  refine K.region ?_
  refine KO.loud rfl (l_box rfl rfl) ?_
  rintro _ _ ⟨b3, rfl, rfl⟩
  refine KO.done ?_
  refine K.seq ?_
  refine K.region ?_
  refine KO.q rfl (q_move rfl) ?_
  refine KO.q rfl (q_nilCheck rfl) ?_
  refine KO.q rfl (q_field fo_68_1 rfl) ?_
  refine KO.q rfl (q_load1D ck_66 rfl) ?_
  refine KO.q rfl (q_len Tryz.underlying66 rfl) ?_
  refine KO.q rfl (q_assign rfl) ?_
  refine KO.done ?_
  refine K.seq <| K.seq ?_
  refine K.region ?_
  refine KO.q rfl (q_move rfl) ?_
  refine KO.q rfl (q_field fo_100_0 rfl) ?_
  refine KO.q rfl (q_load1D ck_3 rfl) ?_
  refine KO.loud rfl (OpL.callD rfl (h := lk_holds _ _ _ _ _ _ _ (by assumption))) ?_
  rintro _ _ ⟨_, ⟨rfl, rfl⟩, rfl⟩
  refine KO.done ?_
  refine K.bcond (s := 13) rfl (fun g13 => ?_) (fun g13 => ?_)
  · refine K.seq ?_
    refine K.region ?_
    refine KO.q rfl (q_assign rfl) ?_
    refine KO.done ?_
    refine K.block ?_
    refine K.rloop (ι := { i : Nat // i ≤ k.line.length ∧ (k.line.take i).all (fun y => k.has y.who) = true }) (fun x => [(4, .int .i64 x.1), (0, .pointer (some ⟨b, 0, none⟩)), (3, .pointer (some ⟨b3, 0, none⟩))]) (fun x => k.line.length - x.1) ⟨0, Nat.zero_le _, rfl⟩ (by repeat (first | exact Env.sub_nil _ | refine Env.sub_cons rfl ?_)) (fun x ih => ?_)
    obtain ⟨i, hi, hz⟩ := x
    dsimp only at hi hz ⊢
    refine K.seq <| K.seq ?_
    refine K.region ?_
    refine KO.q rfl (q_move rfl) ?_
    refine KO.q rfl (q_move rfl) ?_
    refine KO.q rfl (q_nilCheck rfl) ?_
    refine KO.q rfl (q_field fo_68_1 rfl) ?_
    refine KO.q rfl (q_load1D ck_66 rfl) ?_
    refine KO.q rfl (q_len Tryz.underlying66 rfl) ?_
    refine KO.q rfl (q_lt rfl rfl) ?_
    refine KO.q rfl (q_move rfl) ?_
    refine KO.dsplit 21 rfl (fun g21 => ?_) (fun g21 => ?_)
    · obtain ⟨e, he⟩ : ∃ e, k.line[i]? = some e := ⟨_, List.getElem?_eq_getElem (by omega)⟩
      refine KO.q rfl (q_move rfl) ?_
      refine KO.q rfl (q_move rfl) ?_
      refine KO.q rfl (q_nilCheck rfl) ?_
      refine KO.q rfl (q_field fo_68_1 rfl) ?_
      refine KO.q rfl (q_load1D ck_66 rfl) ?_
      refine KO.q rfl (q_move rfl) ?_
      first | refine KO.q rfl (q_ix _ se_66 rfl rfl rfl isF (by repeat (first | exact List.Mem.head _ | apply List.Mem.tail)) rfl (by first | assumption | omega | exact (List.getElem?_eq_some_iff.1 (by assumption)).1 | (simp; omega))) ?_ | refine KO.q rfl (q_ix _ se_66 rfl rfl rfl isO (by repeat (first | exact List.Mem.head _ | apply List.Mem.tail)) rfl (by first | assumption | omega | exact (List.getElem?_eq_some_iff.1 (by assumption)).1 | (simp; omega))) ?_
      refine KO.q rfl (q_fieldE fo_100_0 rfl) ?_
      first | refine KO.q rfl (q_ldE ck_3 rfl isF (by repeat (first | exact List.Mem.head _ | apply List.Mem.tail)) (by first | assumption | exact List.getElem?_eq_getElem (by first | assumption | omega | (simp; omega))) rfl) ?_ | refine KO.q rfl (q_ldE ck_3 rfl isO (by repeat (first | exact List.Mem.head _ | apply List.Mem.tail)) (by first | assumption | exact List.getElem?_eq_getElem (by first | assumption | omega | (simp; omega))) rfl) ?_
      refine KO.loud rfl (OpL.callD rfl (h := lk_holds _ _ _ _ _ _ _ (by assumption))) ?_
      rintro _ _ ⟨_, ⟨rfl, rfl⟩, rfl⟩
      refine KO.q rfl (q_pickT rfl rfl) ?_
      refine KO.done ?_
      refine K.bcond (s := 32) rfl (fun g32 => ?_) (fun g32 => ?_)
      · refine K.skip <| K.block ?_
        refine K.region ?_
        refine KO.q rfl (q_move rfl) ?_
        refine KO.q rfl (q_add rfl rfl (by first | omega | (simp; omega)) (by first | omega | (simp; omega))) ?_
        refine KO.q rfl (q_assign rfl) ?_
        refine KO.done ?_
        refine K.inBlock ?_
        exact K.subE (by repeat (first | exact Env.sub_nil _ | refine Env.sub_cons rfl ?_)) (ih ⟨i + 1, by omega, by rw [all_take_succ he, hz, g32]; rfl⟩ (by show k.line.length - (i + 1) < k.line.length - i; omega))
      · have hat : k.waitAt x.who = i := by
          unfold Lk.waitAt
          rw [if_pos g13]
          exact wAt_eq hz (.inr ⟨e, he, by simpa using g32⟩)
        subst hat
        refine K.exit rfl ?_
        refine K.drawS [pv b 68 [.slice q1 k.hold.length c1, .slice q2 k.line.length c2], pv b3 100 x.cells] (fun _ h => h.subD) mixed ?_
        refine D.q 0 rfl (by kernel_rfl) (by kernel_rfl) (q_move rfl) (fun _ h => h.subD) ?_
        refine D.q 1 rfl (by kernel_rfl) (by kernel_rfl) (q_move rfl) (fun _ h => h.subD) ?_
        refine D.q 2 rfl (by kernel_rfl) (by kernel_rfl) (q_nilCheck rfl) (fun _ h => h.subD) ?_
        refine D.q 3 rfl (by kernel_rfl) (by kernel_rfl) (q_field fo_68_1 rfl) (fun _ h => h.subD) ?_
        refine D.q 4 rfl (by kernel_rfl) (by kernel_rfl) (q_load1D ck_66 rfl) (fun _ h => h.subD) ?_
        refine D.q 5 rfl (by kernel_rfl) (by kernel_rfl) (q_move rfl) (fun _ h => h.subD) ?_
        refine D.q 6 rfl (by kernel_rfl) (by kernel_rfl) (q_loadN ck_100 rfl rfl (by first | (apply cells_pv; (repeat (first | exact List.Mem.head _ | apply List.Mem.tail))) | (apply cells_fv; (repeat (first | exact List.Mem.head _ | apply List.Mem.tail))))) (fun _ h => h.subD) ?_
        refine D.all (rs := [7]) (by kernel_rfl) rfl (DAll.cons rfl (by kernel_rfl) (l_slice1 sz_66_1 rfl rfl ⟨rfl, rfl, rfl⟩) (.inr (by rintro _ _ ⟨b42, rfl, rfl⟩ w h; exact h.subD)) rfl ?_ DAll.nil)
        rintro _ _ ⟨b42, rfl, rfl⟩
        refine D.all (rs := [8]) (by kernel_rfl) rfl (DAll.cons rfl (by kernel_rfl) (OpL.callD rfl (h := ins_one q2 c2 k.line (k.waitAt x.who) b42 _ x (k.waitAt_le x.who) hc2 hl2)) (.inr (by rintro _ _ ⟨_, ⟨qn, cn, rfl, rfl⟩, rfl⟩ w h; exact h.subD)) rfl ?_ DAll.nil)
        rintro _ _ ⟨_, ⟨qn, cn, rfl, rfl⟩, rfl⟩
        refine D.all (rs := [9]) (by kernel_rfl) rfl (DAll.cons rfl (by kernel_rfl) (OpQ.loud (q_nilCheck rfl)) (.inl (by kernel_rfl)) rfl ?_ DAll.nil)
        rintro _ _ ⟨rfl, rfl⟩
        refine D.all (rs := [10]) (by kernel_rfl) rfl (DAll.cons rfl (by kernel_rfl) (OpQ.loud (q_field fo_68_1 rfl)) (.inl (by kernel_rfl)) rfl ?_ DAll.nil)
        rintro _ _ ⟨rfl, rfl⟩
        refine D.all (rs := [11]) (by kernel_rfl) rfl (DAll.consN rfl (by kernel_rfl) (l_store1 ck_66 rfl rfl rfl (by repeat (first | exact Pick.here | apply Pick.there)) (by repeat (first | exact SetAt.here | apply SetAt.there))) (.inl (by kernel_rfl)) rfl ?_ DAll.nil)
        rintro _ _ ⟨rfl, rfl⟩
        refine D.done (by kernel_rfl) ?_
        refine K.fin (fn := Tryz.f61) Tryz.func61 (fun a w hk hs => res0 Tryz.results61) (fun w hs => ?_)
        exact ⟨_, [pv b 68 [.slice q1 k.hold.length c1, .slice qn (k.line.length + 1) cn], RowO Kd.one1 100 q1 c1 k.hold, RowO Kd.one1 100 qn cn (k.wait x).line], rfl, ⟨qn, cn, rfl, by show _ = [pv b _ [_, .slice qn (k.wait x).line.length cn], _, _]; rw [Lk.wait_len]; rfl⟩, hs.fitD⟩
    · have hat : k.waitAt x.who = i := by
        unfold Lk.waitAt
        rw [if_pos g13]
        exact wAt_eq hz (.inl (by omega))
      subst hat
      refine KO.skip rfl ?_
      refine KO.skip rfl ?_
      refine KO.skip rfl ?_
      refine KO.skip rfl ?_
      refine KO.skip rfl ?_
      refine KO.skip rfl ?_
      refine KO.skip rfl ?_
      refine KO.skip rfl ?_
      refine KO.skip rfl ?_
      refine KO.skip rfl ?_
      refine KO.q rfl (q_pickF rfl rfl) ?_
      refine KO.done ?_
      refine K.no rfl ?_
      refine K.exit rfl ?_
      refine K.drawS [pv b 68 [.slice q1 k.hold.length c1, .slice q2 k.line.length c2], pv b3 100 x.cells] (fun _ h => h.subD) mixed ?_
      refine D.q 0 rfl (by kernel_rfl) (by kernel_rfl) (q_move rfl) (fun _ h => h.subD) ?_
      refine D.q 1 rfl (by kernel_rfl) (by kernel_rfl) (q_move rfl) (fun _ h => h.subD) ?_
      refine D.q 2 rfl (by kernel_rfl) (by kernel_rfl) (q_nilCheck rfl) (fun _ h => h.subD) ?_
      refine D.q 3 rfl (by kernel_rfl) (by kernel_rfl) (q_field fo_68_1 rfl) (fun _ h => h.subD) ?_
      refine D.q 4 rfl (by kernel_rfl) (by kernel_rfl) (q_load1D ck_66 rfl) (fun _ h => h.subD) ?_
      refine D.q 5 rfl (by kernel_rfl) (by kernel_rfl) (q_move rfl) (fun _ h => h.subD) ?_
      refine D.q 6 rfl (by kernel_rfl) (by kernel_rfl) (q_loadN ck_100 rfl rfl (by first | (apply cells_pv; (repeat (first | exact List.Mem.head _ | apply List.Mem.tail))) | (apply cells_fv; (repeat (first | exact List.Mem.head _ | apply List.Mem.tail))))) (fun _ h => h.subD) ?_
      refine D.all (rs := [7]) (by kernel_rfl) rfl (DAll.cons rfl (by kernel_rfl) (l_slice1 sz_66_1 rfl rfl ⟨rfl, rfl, rfl⟩) (.inr (by rintro _ _ ⟨b42, rfl, rfl⟩ w h; exact h.subD)) rfl ?_ DAll.nil)
      rintro _ _ ⟨b42, rfl, rfl⟩
      refine D.all (rs := [8]) (by kernel_rfl) rfl (DAll.cons rfl (by kernel_rfl) (OpL.callD rfl (h := ins_one q2 c2 k.line (k.waitAt x.who) b42 _ x (k.waitAt_le x.who) hc2 hl2)) (.inr (by rintro _ _ ⟨_, ⟨qn, cn, rfl, rfl⟩, rfl⟩ w h; exact h.subD)) rfl ?_ DAll.nil)
      rintro _ _ ⟨_, ⟨qn, cn, rfl, rfl⟩, rfl⟩
      refine D.all (rs := [9]) (by kernel_rfl) rfl (DAll.cons rfl (by kernel_rfl) (OpQ.loud (q_nilCheck rfl)) (.inl (by kernel_rfl)) rfl ?_ DAll.nil)
      rintro _ _ ⟨rfl, rfl⟩
      refine D.all (rs := [10]) (by kernel_rfl) rfl (DAll.cons rfl (by kernel_rfl) (OpQ.loud (q_field fo_68_1 rfl)) (.inl (by kernel_rfl)) rfl ?_ DAll.nil)
      rintro _ _ ⟨rfl, rfl⟩
      refine D.all (rs := [11]) (by kernel_rfl) rfl (DAll.consN rfl (by kernel_rfl) (l_store1 ck_66 rfl rfl rfl (by repeat (first | exact Pick.here | apply Pick.there)) (by repeat (first | exact SetAt.here | apply SetAt.there))) (.inl (by kernel_rfl)) rfl ?_ DAll.nil)
      rintro _ _ ⟨rfl, rfl⟩
      refine D.done (by kernel_rfl) ?_
      refine K.fin (fn := Tryz.f61) Tryz.func61 (fun a w hk hs => res0 Tryz.results61) (fun w hs => ?_)
      exact ⟨_, [pv b 68 [.slice q1 k.hold.length c1, .slice qn (k.line.length + 1) cn], RowO Kd.one1 100 q1 c1 k.hold, RowO Kd.one1 100 qn cn (k.wait x).line], rfl, ⟨qn, cn, rfl, by show _ = [pv b _ [_, .slice qn (k.wait x).line.length cn], _, _]; rw [Lk.wait_len]; rfl⟩, hs.fitD⟩
  · have hat : k.waitAt x.who = k.line.length := by unfold Lk.waitAt; rw [if_neg (by simp [g13])]
    refine K.subE (E' := [(0, .pointer (some ⟨b, 0, none⟩)), (3, .pointer (some ⟨b3, 0, none⟩)), (13, .bool false), (4, .int .i64 (k.waitAt x.who))]) (Env.sub_cons rfl (Env.sub_cons rfl (Env.sub_cons rfl (Env.sub_cons (by show some (Value.int .i64 _) = some (Value.int .i64 _); rw [hat]) (Env.sub_nil _))))) ?_
    refine K.skip ?_
    refine K.drawS [pv b 68 [.slice q1 k.hold.length c1, .slice q2 k.line.length c2], pv b3 100 x.cells] (fun _ h => h.subD) mixed ?_
    refine D.q 0 rfl (by kernel_rfl) (by kernel_rfl) (q_move rfl) (fun _ h => h.subD) ?_
    refine D.q 1 rfl (by kernel_rfl) (by kernel_rfl) (q_move rfl) (fun _ h => h.subD) ?_
    refine D.q 2 rfl (by kernel_rfl) (by kernel_rfl) (q_nilCheck rfl) (fun _ h => h.subD) ?_
    refine D.q 3 rfl (by kernel_rfl) (by kernel_rfl) (q_field fo_68_1 rfl) (fun _ h => h.subD) ?_
    refine D.q 4 rfl (by kernel_rfl) (by kernel_rfl) (q_load1D ck_66 rfl) (fun _ h => h.subD) ?_
    refine D.q 5 rfl (by kernel_rfl) (by kernel_rfl) (q_move rfl) (fun _ h => h.subD) ?_
    refine D.q 6 rfl (by kernel_rfl) (by kernel_rfl) (q_loadN ck_100 rfl rfl (by first | (apply cells_pv; (repeat (first | exact List.Mem.head _ | apply List.Mem.tail))) | (apply cells_fv; (repeat (first | exact List.Mem.head _ | apply List.Mem.tail))))) (fun _ h => h.subD) ?_
    refine D.all (rs := [7]) (by kernel_rfl) rfl (DAll.cons rfl (by kernel_rfl) (l_slice1 sz_66_1 rfl rfl ⟨rfl, rfl, rfl⟩) (.inr (by rintro _ _ ⟨b42, rfl, rfl⟩ w h; exact h.subD)) rfl ?_ DAll.nil)
    rintro _ _ ⟨b42, rfl, rfl⟩
    refine D.all (rs := [8]) (by kernel_rfl) rfl (DAll.cons rfl (by kernel_rfl) (OpL.callD rfl (h := ins_one q2 c2 k.line (k.waitAt x.who) b42 _ x (k.waitAt_le x.who) hc2 hl2)) (.inr (by rintro _ _ ⟨_, ⟨qn, cn, rfl, rfl⟩, rfl⟩ w h; exact h.subD)) rfl ?_ DAll.nil)
    rintro _ _ ⟨_, ⟨qn, cn, rfl, rfl⟩, rfl⟩
    refine D.all (rs := [9]) (by kernel_rfl) rfl (DAll.cons rfl (by kernel_rfl) (OpQ.loud (q_nilCheck rfl)) (.inl (by kernel_rfl)) rfl ?_ DAll.nil)
    rintro _ _ ⟨rfl, rfl⟩
    refine D.all (rs := [10]) (by kernel_rfl) rfl (DAll.cons rfl (by kernel_rfl) (OpQ.loud (q_field fo_68_1 rfl)) (.inl (by kernel_rfl)) rfl ?_ DAll.nil)
    rintro _ _ ⟨rfl, rfl⟩
    refine D.all (rs := [11]) (by kernel_rfl) rfl (DAll.consN rfl (by kernel_rfl) (l_store1 ck_66 rfl rfl rfl (by repeat (first | exact Pick.here | apply Pick.there)) (by repeat (first | exact SetAt.here | apply SetAt.there))) (.inl (by kernel_rfl)) rfl ?_ DAll.nil)
    rintro _ _ ⟨rfl, rfl⟩
    refine D.done (by kernel_rfl) ?_
    refine K.fin (fn := Tryz.f61) Tryz.func61 (fun a w hk hs => res0 Tryz.results61) (fun w hs => ?_)
    exact ⟨_, [pv b 68 [.slice q1 k.hold.length c1, .slice qn (k.line.length + 1) cn], RowO Kd.one1 100 q1 c1 k.hold, RowO Kd.one1 100 qn cn (k.wait x).line], rfl, ⟨qn, cn, rfl, by show _ = [pv b _ [_, .slice qn (k.wait x).line.length cn], _, _]; rw [Lk.wait_len]; rfl⟩, hs.fitD⟩
/-- Asking. -/
def Lk.ask (k : Lk) (who m : Int) : Bool × Lk :=
  if modeOf m = 0 then (true, k)
  else if 0 ≤ at1 k.line who then (false, k)
  else if 0 ≤ at1 k.hold who then
    if coversM (k.hold.getD (at1 k.hold who).toNat ⟨0, 0⟩).mode (modeOf m) = true then (true, k)
    else if k.fits ⟨who, joinM (k.hold.getD (at1 k.hold who).toNat ⟨0, 0⟩).mode (modeOf m)⟩ = true then (true, k.grant ⟨who, joinM (k.hold.getD (at1 k.hold who).toNat ⟨0, 0⟩).mode (modeOf m)⟩)
    else (false, k.wait ⟨who, joinM (k.hold.getD (at1 k.hold who).toNat ⟨0, 0⟩).mode (modeOf m)⟩)
  else if (k.fits ⟨who, modeOf m⟩ && decide (k.line.length = 0)) = true then (true, k.grant ⟨who, modeOf m⟩)
  else (false, k.wait ⟨who, modeOf m⟩)
theorem getD_at {l : List One} {i : Nat} {el d : One} (h : l[i]? = some el) : l.getD i d = el := by rw [List.getD_eq_getElem?_getD, h]; rfl
--%call (*poste/grant.Lock).Ask := lk_Ask _ _ _ _ _ _ _ _ (by assumption) (by assumption) !! ⟨_, ⟨q#, c#, p#, d#, rfl, rfl⟩, rfl⟩
set_option maxHeartbeats 1600000 in
theorem lk_Ask (b : Nat) (q1 : Option Addr) (c1 : Nat) (q2 : Option Addr) (c2 : Nat) (k : Lk) (who m : Int) (hl : k.hold.length ≤ 1000000000) (hl2 : k.line.length ≤ 1000000000) : Fn Tryz.prog 28 [.pointer (some ⟨b, 0, none⟩), .int .i64 who, .int .i64 m].toArray (LkL b q1 c1 q2 c2 k) (fun r post => ∃ q1' c1' q2' c2', r = .bool (k.ask who m).1 ∧ post = LkL b q1' c1' q2' c2' (k.ask who m).2) := by
  refine Fn.enter (N := 77) Tryz.func28 rfl Tryz.ntmps28 (by kernel_rfl) rfl (fun ρ L => ?_)
  refine K.seq ?_
  refine K.region ?_
  refine KO.q rfl (q_assign rfl) ?_
  refine KO.done ?_
  refine K.seq <| K.seq ?_
  refine K.region ?_
  refine KO.q rfl (q_move rfl) ?_
  refine KO.q rfl (q_pnil Tryz.underlying61 rfl rfl) ?_
  refine KO.done ?_
  refine K.no rfl ?_
  refine K.skip <| K.seq ?_
  refine K.region ?_
  refine KO.q rfl (q_move rfl) ?_
  refine KO.q rfl (q_move rfl) ?_
  refine KO.loud rfl (OpL.callD rfl (h := md_Of _)) ?_
  rintro _ _ ⟨_, ⟨rfl, rfl⟩, rfl⟩
  refine KO.q rfl (q_as_one (q_build st_100 rfl (by repeat (first | exact Fill.nil | (apply Fill.cons; rfl; rfl; rfl) | exact SetN.nil | apply SetN.cons | exact SetAt.here | apply SetAt.there))) (by rfl)) ?_
  refine KO.loud rfl (l_alloc zo_100) ?_
  rintro _ _ ⟨b7, rfl, rfl⟩
  refine KO.loudN rfl (l_storeAll ck_100 rfl rfl ⟨rfl, rfl⟩ (one_one _) (by repeat (first | exact Pick.here | apply Pick.there))) ?_
  rintro _ _ ⟨rfl, rfl⟩
  refine KO.done ?_
  refine K.seq <| K.seq ?_
  refine K.region ?_
  refine KO.q rfl (q_field fo_100_1 rfl) ?_
  refine KO.q rfl (q_load1D ck_3 rfl) ?_
  refine KO.q rfl (q_eq rfl rfl) ?_
  refine KO.done ?_
  refine K.dcond (s := 17) rfl (fun g17 => ?_) (fun g17 => ?_)
  · have hr : k.ask who m = (true, k) := by unfold Lk.ask; rw [if_pos g17]
    refine K.seq ?_
    refine K.region ?_
    refine KO.q rfl (q_assign rfl) ?_
    refine KO.done ?_
    refine K.ret (fn := Tryz.f28) Tryz.func28 (fun a w hk hs => res1 Tryz.results28 hk rfl) (fun w hs => ?_)
    exact ⟨_, LkL b q1 c1 q2 c2 k, rfl, ⟨q1, c1, q2, c2, by rw [hr], by rw [hr]⟩, hs.fitD⟩
  · refine K.skip <| K.seq <| K.seq ?_
    refine K.region ?_
    refine KO.q rfl (q_move rfl) ?_
    refine KO.q rfl (q_nilCheck rfl) ?_
    refine KO.q rfl (q_field fo_68_1 rfl) ?_
    refine KO.q rfl (q_load1D ck_66 rfl) ?_
    refine KO.q rfl (q_move rfl) ?_
    refine KO.loud rfl (OpL.callD rfl (h := gr_find (RowO Kd.one1 100 q2 c2 k.line) q2 c2 k.line who isO (by omega))) ?_
    rintro _ _ ⟨_, ⟨rfl, rfl⟩, rfl⟩
    refine KO.q rfl (q_ge rfl rfl) ?_
    refine KO.done ?_
    refine K.dcond (s := 24) rfl (fun g24 => ?_) (fun g24 => ?_)
    · have hr : k.ask who m = (false, k) := by unfold Lk.ask; rw [if_neg g17, if_pos g24]
      refine K.seq ?_
      refine K.region ?_
      refine KO.q rfl (q_assign rfl) ?_
      refine KO.done ?_
      refine K.ret (fn := Tryz.f28) Tryz.func28 (fun a w hk hs => res1 Tryz.results28 hk rfl) (fun w hs => ?_)
      exact ⟨_, LkL b q1 c1 q2 c2 k, rfl, ⟨q1, c1, q2, c2, by rw [hr], by rw [hr]⟩, hs.fitD⟩
    · refine K.skip <| K.seq ?_
      refine K.region ?_
      refine KO.q rfl (q_move rfl) ?_
      refine KO.q rfl (q_nilCheck rfl) ?_
      refine KO.q rfl (q_field fo_68_0 rfl) ?_
      refine KO.q rfl (q_load1D ck_66 rfl) ?_
      refine KO.q rfl (q_move rfl) ?_
      refine KO.loud rfl (OpL.callD rfl (h := gr_find (RowO Kd.one1 100 q1 c1 k.hold) q1 c1 k.hold who isO (by omega))) ?_
      rintro _ _ ⟨_, ⟨rfl, rfl⟩, rfl⟩
      refine KO.q rfl (q_assign rfl) ?_
      refine KO.done ?_
      refine K.seq <| K.seq ?_
      refine K.region ?_
      refine KO.q rfl (q_move rfl) ?_
      refine KO.q rfl (q_ge rfl rfl) ?_
      refine KO.done ?_
      refine K.dcond (s := 32) rfl (fun g32 => ?_) (fun g32 => ?_)
      · obtain ⟨i, el, he, hi, hw⟩ := at1_some g32
        have hil := (List.getElem?_eq_some_iff.1 he).1
        have hd : k.hold.getD (at1 k.hold who).toNat ⟨0, 0⟩ = el := by rw [hi, Int.toNat_natCast]; exact getD_at he
        refine K.seq <| K.seq ?_
        refine K.drawS [pv b 68 [.slice q1 k.hold.length c1, .slice q2 k.line.length c2], RowO Kd.one1 100 q1 c1 k.hold, pv b7 100 (One.cells ⟨who, modeOf m⟩)] (fun _ h => h.subD) mixed ?_
        refine D.q 0 rfl (by kernel_rfl) (by kernel_rfl) (q_move rfl) (fun _ h => h.subD) ?_
        refine D.q 1 rfl (by kernel_rfl) (by kernel_rfl) (q_nilCheck rfl) (fun _ h => h.subD) ?_
        refine D.q 2 rfl (by kernel_rfl) (by kernel_rfl) (q_field fo_68_0 rfl) (fun _ h => h.subD) ?_
        refine D.q 3 rfl (by kernel_rfl) (by kernel_rfl) (q_load1D ck_66 rfl) (fun _ h => h.subD) ?_
        refine D.q 4 rfl (by kernel_rfl) (by kernel_rfl) (q_move rfl) (fun _ h => h.subD) ?_
        refine D.q 5 rfl (by kernel_rfl) (by kernel_rfl) (q_ix i se_66 rfl rfl hi isO (by repeat (first | exact List.Mem.head _ | apply List.Mem.tail)) rfl hil) (fun _ h => h.subD) ?_
        refine D.q 6 rfl (by kernel_rfl) (by kernel_rfl) (q_fieldE fo_100_1 rfl) (fun _ h => h.subD) ?_
        first | refine D.q 7 rfl (by kernel_rfl) (by kernel_rfl) (q_ldE ck_3 rfl isF (by repeat (first | exact List.Mem.head _ | apply List.Mem.tail)) (by first | assumption | exact List.getElem?_eq_getElem (by first | assumption | omega | (simp; omega))) rfl) (fun _ h => h.subD) ?_ | refine D.q 7 rfl (by kernel_rfl) (by kernel_rfl) (q_ldE ck_3 rfl isO (by repeat (first | exact List.Mem.head _ | apply List.Mem.tail)) (by first | assumption | exact List.getElem?_eq_getElem (by first | assumption | omega | (simp; omega))) rfl) (fun _ h => h.subD) ?_
        refine D.q 8 rfl (by kernel_rfl) (by kernel_rfl) (q_field fo_100_1 rfl) (fun _ h => h.subD) ?_
        refine D.q 9 rfl (by kernel_rfl) (by kernel_rfl) (q_load1D ck_3 rfl) (fun _ h => h.subD) ?_
        refine D.all (rs := [10]) (by kernel_rfl) rfl (DAll.cons rfl (by kernel_rfl) (OpL.callD rfl (h := md_Covers _ _)) (.inr (by rintro _ _ ⟨_, ⟨rfl, rfl⟩, rfl⟩ w h; exact h.subD)) rfl ?_ DAll.nil)
        rintro _ _ ⟨_, ⟨rfl, rfl⟩, rfl⟩
        refine D.done (by kernel_rfl) ?_
        refine K.bcond (s := 43) rfl (fun g43 => ?_) (fun g43 => ?_)
        · have hr : k.ask who m = (true, k) := by unfold Lk.ask; rw [if_neg g17, if_neg g24, if_pos g32, hd, if_pos g43]
          refine K.seq ?_
          refine K.region ?_
          refine KO.q rfl (q_assign rfl) ?_
          refine KO.done ?_
          refine K.ret (fn := Tryz.f28) Tryz.func28 (fun a w hk hs => res1 Tryz.results28 hk rfl) (fun w hs => ?_)
          exact ⟨_, LkL b q1 c1 q2 c2 k, rfl, ⟨q1, c1, q2, c2, by rw [hr], by rw [hr]⟩, hs.fitD⟩
        · refine K.skip ?_
          refine K.drawS [pv b 68 [.slice q1 k.hold.length c1, .slice q2 k.line.length c2], RowO Kd.one1 100 q1 c1 k.hold, pv b7 100 (One.cells ⟨who, modeOf m⟩)] (fun _ h => h.subD) mixed ?_
          refine D.q 0 rfl (by kernel_rfl) (by kernel_rfl) (q_move rfl) (fun _ h => h.subD) ?_
          refine D.q 1 rfl (by kernel_rfl) (by kernel_rfl) (q_nilCheck rfl) (fun _ h => h.subD) ?_
          refine D.q 2 rfl (by kernel_rfl) (by kernel_rfl) (q_field fo_68_0 rfl) (fun _ h => h.subD) ?_
          refine D.q 3 rfl (by kernel_rfl) (by kernel_rfl) (q_load1D ck_66 rfl) (fun _ h => h.subD) ?_
          refine D.q 4 rfl (by kernel_rfl) (by kernel_rfl) (q_move rfl) (fun _ h => h.subD) ?_
          refine D.q 5 rfl (by kernel_rfl) (by kernel_rfl) (q_ix i se_66 rfl rfl hi isO (by repeat (first | exact List.Mem.head _ | apply List.Mem.tail)) rfl hil) (fun _ h => h.subD) ?_
          refine D.q 6 rfl (by kernel_rfl) (by kernel_rfl) (q_fieldE fo_100_1 rfl) (fun _ h => h.subD) ?_
          first | refine D.q 7 rfl (by kernel_rfl) (by kernel_rfl) (q_ldE ck_3 rfl isF (by repeat (first | exact List.Mem.head _ | apply List.Mem.tail)) (by first | assumption | exact List.getElem?_eq_getElem (by first | assumption | omega | (simp; omega))) rfl) (fun _ h => h.subD) ?_ | refine D.q 7 rfl (by kernel_rfl) (by kernel_rfl) (q_ldE ck_3 rfl isO (by repeat (first | exact List.Mem.head _ | apply List.Mem.tail)) (by first | assumption | exact List.getElem?_eq_getElem (by first | assumption | omega | (simp; omega))) rfl) (fun _ h => h.subD) ?_
          refine D.q 8 rfl (by kernel_rfl) (by kernel_rfl) (q_field fo_100_1 rfl) (fun _ h => h.subD) ?_
          refine D.all (rs := [9]) (by kernel_rfl) rfl (DAll.cons rfl (by kernel_rfl) (OpQ.loud (q_load1D ck_3 rfl)) (.inr (by rintro _ _ ⟨rfl, rfl⟩ w h; exact h.subD)) rfl ?_ DAll.nil)
          rintro _ _ ⟨rfl, rfl⟩
          refine D.all (rs := [10]) (by kernel_rfl) rfl (DAll.cons rfl (by kernel_rfl) (OpL.callD rfl (h := md_Join _ _)) (.inr (by rintro _ _ ⟨_, ⟨rfl, rfl⟩, rfl⟩ w h; exact h.subD)) rfl ?_ DAll.nil)
          rintro _ _ ⟨_, ⟨rfl, rfl⟩, rfl⟩
          refine D.q 11 rfl (by kernel_rfl) (by kernel_rfl) (q_field fo_100_1 rfl) (fun _ h => h.subD) ?_
          refine D.all (rs := [12]) (by kernel_rfl) rfl (DAll.consN rfl (by kernel_rfl) (l_store1 ck_3 rfl rfl rfl (by repeat (first | exact Pick.here | apply Pick.there)) (by repeat (first | exact SetAt.here | apply SetAt.there))) (.inl (by kernel_rfl)) rfl ?_ DAll.nil)
          rintro _ _ ⟨rfl, rfl⟩
          refine D.done (by kernel_rfl) ?_
          refine K.seq <| K.seq ?_
          refine K.region ?_
          refine KO.q rfl (q_move rfl) ?_
          refine KO.q rfl (q_as_one (q_loadN ck_100 rfl rfl (by first | (apply cells_pv; (repeat (first | exact List.Mem.head _ | apply List.Mem.tail))) | (apply cells_fv; (repeat (first | exact List.Mem.head _ | apply List.Mem.tail))))) (by rfl)) ?_
          refine KO.loud rfl (OpL.callD rfl (h := lk_fits _ _ _ _ _ _ _ (by assumption))) ?_
          rintro _ _ ⟨_, ⟨rfl, rfl⟩, rfl⟩
          refine KO.q rfl (q_move rfl) ?_
          refine KO.split 59 rfl (fun g59 => ?_) (fun g59 => ?_)
          · have hr : k.ask who m = (true, k.grant ⟨who, joinM el.mode (modeOf m)⟩) := by unfold Lk.ask; rw [if_neg g17, if_neg g24, if_pos g32, hd, if_neg (by simp [g43]), if_pos g59]
            refine KO.q rfl (q_move rfl) ?_
            refine KO.q rfl (q_nilCheck rfl) ?_
            refine KO.q rfl (q_field fo_68_1 rfl) ?_
            refine KO.q rfl (q_load1D ck_66 rfl) ?_
            refine KO.q rfl (q_len Tryz.underlying66 rfl) ?_
            refine KO.q rfl (q_eq rfl rfl) ?_
            refine KO.q rfl (q_move rfl) ?_
            refine KO.dsplit 66 rfl (fun g66 => ?_) (fun g66 => ?_)
            · refine KO.skip rfl ?_
              refine KO.skip rfl ?_
              refine KO.q rfl (q_pickT rfl rfl) ?_
              refine KO.q rfl (q_pickT rfl rfl) ?_
              refine KO.done ?_
              refine K.yes rfl ?_
              refine K.seq ?_
              refine K.region ?_
              refine KO.q rfl (q_move rfl) ?_
              refine KO.q rfl (q_as_one (q_loadN ck_100 rfl rfl (by first | (apply cells_pv; (repeat (first | exact List.Mem.head _ | apply List.Mem.tail))) | (apply cells_fv; (repeat (first | exact List.Mem.head _ | apply List.Mem.tail))))) (by rfl)) ?_
              refine KO.loud rfl (OpL.callD rfl (h := lk_grant _ _ _ _ _ _ _ (by assumption))) ?_
              rintro _ _ ⟨_, ⟨qn, cn, rfl, rfl⟩, rfl⟩
              refine KO.done ?_
              refine K.seq ?_
              refine K.region ?_
              refine KO.q rfl (q_assign rfl) ?_
              refine KO.done ?_
              refine K.ret (fn := Tryz.f28) Tryz.func28 (fun a w hk hs => res1 Tryz.results28 hk rfl) (fun w hs => ?_)
              rw [hr]
              exact ⟨_, LkL b qn cn q2 c2 (k.grant _), rfl, ⟨qn, cn, q2, c2, rfl, rfl⟩, hs.fitD⟩
            · refine KO.q rfl (q_move rfl) ?_
              refine KO.q rfl (q_ge rfl rfl) ?_
              refine KO.q rfl (q_pickF rfl rfl) ?_
              refine KO.q rfl (q_pickT rfl rfl) ?_
              refine KO.done ?_
              refine K.dcond (s := 70) rfl (fun g70 => ?_) (fun g70 => ?_)
              · refine K.seq ?_
                refine K.region ?_
                refine KO.q rfl (q_move rfl) ?_
                refine KO.q rfl (q_as_one (q_loadN ck_100 rfl rfl (by first | (apply cells_pv; (repeat (first | exact List.Mem.head _ | apply List.Mem.tail))) | (apply cells_fv; (repeat (first | exact List.Mem.head _ | apply List.Mem.tail))))) (by rfl)) ?_
                refine KO.loud rfl (OpL.callD rfl (h := lk_grant _ _ _ _ _ _ _ (by assumption))) ?_
                rintro _ _ ⟨_, ⟨qn, cn, rfl, rfl⟩, rfl⟩
                refine KO.done ?_
                refine K.seq ?_
                refine K.region ?_
                refine KO.q rfl (q_assign rfl) ?_
                refine KO.done ?_
                refine K.ret (fn := Tryz.f28) Tryz.func28 (fun a w hk hs => res1 Tryz.results28 hk rfl) (fun w hs => ?_)
                rw [hr]
                exact ⟨_, LkL b qn cn q2 c2 (k.grant _), rfl, ⟨qn, cn, q2, c2, rfl, rfl⟩, hs.fitD⟩
              · exact absurd g32 g70
          · have hr : k.ask who m = (false, k.wait ⟨who, joinM el.mode (modeOf m)⟩) := by unfold Lk.ask; rw [if_neg g17, if_neg g24, if_pos g32, hd, if_neg (by simp [g43]), if_neg (by simp [g59])]
            refine KO.skip rfl ?_
            refine KO.skip rfl ?_
            refine KO.skip rfl ?_
            refine KO.skip rfl ?_
            refine KO.skip rfl ?_
            refine KO.skip rfl ?_
            refine KO.skip rfl ?_
            refine KO.gone rfl ?_
            refine KO.gone rfl ?_
            refine KO.skip rfl ?_
            refine KO.q rfl (q_pickF rfl rfl) ?_
            refine KO.done ?_
            refine K.no rfl ?_
            refine K.skip <| K.seq ?_
            refine K.region ?_
            refine KO.q rfl (q_move rfl) ?_
            refine KO.q rfl (q_as_one (q_loadN ck_100 rfl rfl (by first | (apply cells_pv; (repeat (first | exact List.Mem.head _ | apply List.Mem.tail))) | (apply cells_fv; (repeat (first | exact List.Mem.head _ | apply List.Mem.tail))))) (by rfl)) ?_
            refine KO.loud rfl (OpL.callD rfl (h := lk_wait _ _ _ _ _ _ _ (by assumption) (by assumption))) ?_
            rintro _ _ ⟨_, ⟨qn, cn, rfl, rfl⟩, rfl⟩
            refine KO.done ?_
            refine K.seq ?_
            refine K.region ?_
            refine KO.q rfl (q_assign rfl) ?_
            refine KO.done ?_
            refine K.ret (fn := Tryz.f28) Tryz.func28 (fun a w hk hs => res1 Tryz.results28 hk rfl) (fun w hs => ?_)
            rw [hr]
            exact ⟨_, LkL b q1 c1 qn cn (k.wait _), rfl, ⟨q1, c1, qn, cn, rfl, rfl⟩, hs.fitD⟩
      · refine K.skip <| K.seq <| K.seq ?_
        refine K.region ?_
        refine KO.q rfl (q_move rfl) ?_
        refine KO.q rfl (q_as_one (q_loadN ck_100 rfl rfl (by first | (apply cells_pv; (repeat (first | exact List.Mem.head _ | apply List.Mem.tail))) | (apply cells_fv; (repeat (first | exact List.Mem.head _ | apply List.Mem.tail))))) (by rfl)) ?_
        refine KO.loud rfl (OpL.callD rfl (h := lk_fits _ _ _ _ _ _ _ (by assumption))) ?_
        rintro _ _ ⟨_, ⟨rfl, rfl⟩, rfl⟩
        refine KO.q rfl (q_move rfl) ?_
        refine KO.split 59 rfl (fun g59 => ?_) (fun g59 => ?_)
        · refine KO.q rfl (q_move rfl) ?_
          refine KO.q rfl (q_nilCheck rfl) ?_
          refine KO.q rfl (q_field fo_68_1 rfl) ?_
          refine KO.q rfl (q_load1D ck_66 rfl) ?_
          refine KO.q rfl (q_len Tryz.underlying66 rfl) ?_
          refine KO.q rfl (q_eq rfl rfl) ?_
          refine KO.q rfl (q_move rfl) ?_
          refine KO.dsplit 66 rfl (fun g66 => ?_) (fun g66 => ?_)
          · have hr : k.ask who m = (true, k.grant ⟨who, modeOf m⟩) := by unfold Lk.ask; rw [if_neg g17, if_neg g24, if_neg g32, if_pos (by rw [g59, decide_eq_true (by omega)]; rfl)]
            refine KO.skip rfl ?_
            refine KO.skip rfl ?_
            refine KO.q rfl (q_pickT rfl rfl) ?_
            refine KO.q rfl (q_pickT rfl rfl) ?_
            refine KO.done ?_
            refine K.yes rfl ?_
            refine K.seq ?_
            refine K.region ?_
            refine KO.q rfl (q_move rfl) ?_
            refine KO.q rfl (q_as_one (q_loadN ck_100 rfl rfl (by first | (apply cells_pv; (repeat (first | exact List.Mem.head _ | apply List.Mem.tail))) | (apply cells_fv; (repeat (first | exact List.Mem.head _ | apply List.Mem.tail))))) (by rfl)) ?_
            refine KO.loud rfl (OpL.callD rfl (h := lk_grant _ _ _ _ _ _ _ (by assumption))) ?_
            rintro _ _ ⟨_, ⟨qn, cn, rfl, rfl⟩, rfl⟩
            refine KO.done ?_
            refine K.seq ?_
            refine K.region ?_
            refine KO.q rfl (q_assign rfl) ?_
            refine KO.done ?_
            refine K.ret (fn := Tryz.f28) Tryz.func28 (fun a w hk hs => res1 Tryz.results28 hk rfl) (fun w hs => ?_)
            rw [hr]
            exact ⟨_, LkL b qn cn q2 c2 (k.grant _), rfl, ⟨qn, cn, q2, c2, rfl, rfl⟩, hs.fitD⟩
          · have hr : k.ask who m = (false, k.wait ⟨who, modeOf m⟩) := by unfold Lk.ask; rw [if_neg g17, if_neg g24, if_neg g32, if_neg (by rw [g59, decide_eq_false (by omega)]; decide)]
            refine KO.q rfl (q_move rfl) ?_
            refine KO.q rfl (q_ge rfl rfl) ?_
            refine KO.q rfl (q_pickF rfl rfl) ?_
            refine KO.q rfl (q_pickT rfl rfl) ?_
            refine KO.done ?_
            refine K.dcond (s := 70) rfl (fun g70 => ?_) (fun g70 => ?_)
            · exact absurd g70 g32
            · refine K.skip <| K.seq ?_
              refine K.region ?_
              refine KO.q rfl (q_move rfl) ?_
              refine KO.q rfl (q_as_one (q_loadN ck_100 rfl rfl (by first | (apply cells_pv; (repeat (first | exact List.Mem.head _ | apply List.Mem.tail))) | (apply cells_fv; (repeat (first | exact List.Mem.head _ | apply List.Mem.tail))))) (by rfl)) ?_
              refine KO.loud rfl (OpL.callD rfl (h := lk_wait _ _ _ _ _ _ _ (by assumption) (by assumption))) ?_
              rintro _ _ ⟨_, ⟨qn, cn, rfl, rfl⟩, rfl⟩
              refine KO.done ?_
              refine K.seq ?_
              refine K.region ?_
              refine KO.q rfl (q_assign rfl) ?_
              refine KO.done ?_
              refine K.ret (fn := Tryz.f28) Tryz.func28 (fun a w hk hs => res1 Tryz.results28 hk rfl) (fun w hs => ?_)
              rw [hr]
              exact ⟨_, LkL b q1 c1 qn cn (k.wait _), rfl, ⟨q1, c1, qn, cn, rfl, rfl⟩, hs.fitD⟩
        · have hr : k.ask who m = (false, k.wait ⟨who, modeOf m⟩) := by unfold Lk.ask; rw [if_neg g17, if_neg g24, if_neg g32, if_neg (by simp [g59])]
          refine KO.skip rfl ?_
          refine KO.skip rfl ?_
          refine KO.skip rfl ?_
          refine KO.skip rfl ?_
          refine KO.skip rfl ?_
          refine KO.skip rfl ?_
          refine KO.skip rfl ?_
          refine KO.gone rfl ?_
          refine KO.gone rfl ?_
          refine KO.skip rfl ?_
          refine KO.q rfl (q_pickF rfl rfl) ?_
          refine KO.done ?_
          refine K.no rfl ?_
          refine K.skip <| K.seq ?_
          refine K.region ?_
          refine KO.q rfl (q_move rfl) ?_
          refine KO.q rfl (q_as_one (q_loadN ck_100 rfl rfl (by first | (apply cells_pv; (repeat (first | exact List.Mem.head _ | apply List.Mem.tail))) | (apply cells_fv; (repeat (first | exact List.Mem.head _ | apply List.Mem.tail))))) (by rfl)) ?_
          refine KO.loud rfl (OpL.callD rfl (h := lk_wait _ _ _ _ _ _ _ (by assumption) (by assumption))) ?_
          rintro _ _ ⟨_, ⟨qn, cn, rfl, rfl⟩, rfl⟩
          refine KO.done ?_
          refine K.seq ?_
          refine K.region ?_
          refine KO.q rfl (q_assign rfl) ?_
          refine KO.done ?_
          refine K.ret (fn := Tryz.f28) Tryz.func28 (fun a w hk hs => res1 Tryz.results28 hk rfl) (fun w hs => ?_)
          rw [hr]
          exact ⟨_, LkL b q1 c1 qn cn (k.wait _), rfl, ⟨q1, c1, qn, cn, rfl, rfl⟩, hs.fitD⟩
end Go.Proofs.YtcpkcjabmookmaaGreat.L
/-! Walks: a lock: freeing. -/
namespace Go.Proofs.YtcpkcjabmookmaaGreat.L
open Go Go.Proofs
attribute [local irreducible] pv fv pt fz RowF RowO rowP old pure_ elA
set_option maxRecDepth 100000
set_option linter.unusedSimpArgs false
set_option linter.unusedVariables false

def Lk.without (k : Lk) (who : Int) : Lk := ⟨k.hold.filter (fun x => !decide (x.who = who)), k.line.filter (fun x => !decide (x.who = who))⟩
def pump : List One → List One → List Int × Lk
  | hold, [] => ([], ⟨hold, []⟩)
  | hold, x :: l => if (Lk.mk hold []).fits x = true then (x.who :: (pump ((Lk.mk hold []).grant x).hold l).1, (pump ((Lk.mk hold []).grant x).hold l).2) else ([], ⟨hold, x :: l⟩)
def Lk.pump (k : Lk) : List Int × Lk := L.pump k.hold k.line
def Lk.drop (k : Lk) (who : Int) : List Int × Lk := (k.without who).pump
theorem Lk.fits_line (h l : List One) (x : One) : (Lk.mk h l).fits x = (Lk.mk h []).fits x := rfl
theorem Lk.grant_line (h l : List One) (x : One) : (Lk.mk h l).grant x = ⟨((Lk.mk h []).grant x).hold, l⟩ := by unfold Lk.grant; split <;> rfl
theorem Lk.grant_len (k : Lk) (x : One) : (k.grant x).hold.length ≤ k.hold.length + 1 := by
  unfold Lk.grant
  split
  · show (k.hold.set _ _).length ≤ _; rw [List.length_set]; omega
  · show (k.hold ++ [x]).length ≤ _; rw [List.length_append]; exact Nat.le_refl _
theorem Lk.grant_same (k : Lk) (x : One) : (k.grant x).line = k.line := by unfold Lk.grant; split <;> rfl
theorem pump_go {k : Lk} {x : One} {l : List One} (hl : k.line = x :: l) (hf : k.fits x = true) : k.pump = (x.who :: (Lk.mk (k.grant x).hold l).pump.1, (Lk.mk (k.grant x).hold l).pump.2) := by
  obtain ⟨h, l'⟩ := k
  simp only at hl
  subst hl
  rw [Lk.grant_line]
  show L.pump h (x :: l) = _
  unfold L.pump
  rw [if_pos (by rw [← Lk.fits_line h (x :: l)]; exact hf)]
  rfl
theorem pump_stop {k : Lk} (hf : ∀ x, k.line[0]? = some x → k.fits x = false) : k.pump = ([], k) := by
  obtain ⟨h, l⟩ := k
  cases l with
  | nil => rfl
  | cons x l =>
    show L.pump h (x :: l) = _
    unfold L.pump
    rw [if_neg (by have := hf x rfl; rw [Lk.fits_line] at this; simp [this])]
theorem gr_drop1 (b : Nat) (who : Int) (x : One) : Fn Tryz.prog 66 [.agg x.cells.toArray, .pointer (some ⟨b, 0, none⟩)].toArray [pv b 3 [.int .i64 who]] (fun v post => v = .bool (decide (x.who = who)) ∧ post = [pv b 3 [.int .i64 who]]) := by
  refine Fn.enter (N := 8) Tryz.func66 rfl Tryz.ntmps66 (by kernel_rfl) rfl (fun ρ L => ?_)
  refine K.seq ?_
  refine K.region ?_
  refine KO.loud rfl (l_box rfl rfl) ?_
  rintro _ _ ⟨b2, rfl, rfl⟩
  refine KO.q rfl (q_assign rfl) ?_
  refine KO.done ?_
  refine K.seq ?_
  refine K.region ?_
  refine KO.q rfl (q_field fo_100_0 rfl) ?_
  refine KO.q rfl (q_load1D ck_3 rfl) ?_
  refine KO.q rfl (q_load1D ck_3 rfl) ?_
  refine KO.q rfl (q_eq rfl rfl) ?_
  refine KO.q rfl (q_assign rfl) ?_
  refine KO.done ?_
  refine K.ret (fn := Tryz.f66) Tryz.func66 (fun a w hk hs => res1 Tryz.results66 hk rfl) (fun w hs => ?_)
  exact ⟨_, [pv b 3 [.int .i64 who]], rfl, ⟨rfl, rfl⟩, hs.fitD⟩
structure DropS where
  k : Lk
  out : List Int
  q1 : Option Addr
  c1 : Nat
  q2 : Option Addr
  c2 : Nat
  po : Option Addr
  co : Nat
--%call (*poste/grant.Lock).Drop := lk_Drop _ _ _ _ _ _ _ (by omega) !! ⟨_, ⟨q#, c#, p#, d#, r#, e#, rfl, rfl⟩, rfl⟩
set_option maxHeartbeats 1600000 in
theorem lk_Drop (b : Nat) (q1 : Option Addr) (c1 : Nat) (q2 : Option Addr) (c2 : Nat) (k : Lk) (who : Int) (hl : k.hold.length + k.line.length ≤ 1000000000) : Fn Tryz.prog 35 [.pointer (some ⟨b, 0, none⟩), .int .i64 who].toArray (LkL b q1 c1 q2 c2 k) (fun r post => ∃ q1' c1' q2' c2' po co, r = .slice po (k.drop who).1.length co ∧ post = RowO (Kd.int .i64) 3 po co (k.drop who).1 :: LkL b q1' c1' q2' c2' (k.drop who).2) := by
  refine Fn.enter (N := 71) Tryz.func35 rfl Tryz.ntmps35 (by kernel_rfl) rfl (fun ρ L => ?_)
  refine K.seq ?_
  refine K.fact (fun w h => rowO_cap (e := 100) (k := Kd.one1) (p := q1) (cap := c1) (xs := k.hold) (by repeat (first | exact List.Mem.head _ | apply List.Mem.tail)) w h) (fun hc1 => ?_)
  refine K.fact (fun w h => rowO_cap (e := 100) (k := Kd.one1) (p := q2) (cap := c2) (xs := k.line) (by repeat (first | exact List.Mem.head _ | apply List.Mem.tail)) w h) (fun hc2 => ?_)
  have hw : (k.without who).hold.length + (k.without who).line.length ≤ 1000000000 ∧ ([] : List Int).length + (k.without who).line.length ≤ 1000000000 := by
    have h1 : (k.without who).hold.length ≤ k.hold.length := List.length_filter_le _ _
    have h2 : (k.without who).line.length ≤ k.line.length := List.length_filter_le _ _
    exact ⟨by omega, by simp only [List.length_nil]; omega⟩
  refine K.region ?_
  refine KO.loud rfl (l_box rfl rfl) ?_
  rintro _ _ ⟨b3, rfl, rfl⟩
  refine KO.q rfl (q_assign rfl) ?_
  refine KO.done ?_
  refine K.seq <| K.seq ?_
  refine K.region ?_
  refine KO.q rfl (q_move rfl) ?_
  refine KO.q rfl (q_pnil Tryz.underlying61 rfl rfl) ?_
  refine KO.done ?_
  refine K.no rfl ?_
  refine K.skip <| K.seq ?_
  refine K.region ?_
  refine KO.q rfl (q_func rfl rfl) ?_
  refine KO.q rfl (q_assign rfl) ?_
  refine KO.done ?_
  refine K.seq ?_
  refine K.region ?_
  refine KO.q rfl (q_move rfl) ?_
  refine KO.q rfl (q_move rfl) ?_
  refine KO.q rfl (q_nilCheck rfl) ?_
  refine KO.q rfl (q_field fo_68_0 rfl) ?_
  refine KO.q rfl (q_load1D ck_66 rfl) ?_
  refine KO.q rfl (q_move rfl) ?_
  refine KO.loud rfl (OpL.callD rfl (h := delf_one (pv b3 3 [.int .i64 who]) q1 c1 k.hold 66 [.pointer (some ⟨b3, 0, none⟩)] (fun x => decide (x.who = who)) hc1 (by omega) (fun x _ => gr_drop1 b3 who x))) ?_
  rintro _ _ ⟨_, ⟨rfl, rfl⟩, rfl⟩
  refine KO.q rfl (q_nilCheck rfl) ?_
  refine KO.q rfl (q_field fo_68_0 rfl) ?_
  refine KO.loudN rfl (l_store1 ck_66 rfl rfl rfl (by repeat (first | exact Pick.here | apply Pick.there)) (by repeat (first | exact SetAt.here | apply SetAt.there))) ?_
  rintro _ _ ⟨rfl, rfl⟩
  refine KO.done ?_
  refine K.seq ?_
  refine K.region ?_
  refine KO.q rfl (q_move rfl) ?_
  refine KO.q rfl (q_move rfl) ?_
  refine KO.q rfl (q_nilCheck rfl) ?_
  refine KO.q rfl (q_field fo_68_1 rfl) ?_
  refine KO.q rfl (q_load1D ck_66 rfl) ?_
  refine KO.q rfl (q_move rfl) ?_
  refine KO.loud rfl (OpL.callD rfl (h := delf_one (pv b3 3 [.int .i64 who]) q2 c2 k.line 66 [.pointer (some ⟨b3, 0, none⟩)] (fun x => decide (x.who = who)) hc2 (by omega) (fun x _ => gr_drop1 b3 who x))) ?_
  rintro _ _ ⟨_, ⟨rfl, rfl⟩, rfl⟩
  refine KO.q rfl (q_nilCheck rfl) ?_
  refine KO.q rfl (q_field fo_68_1 rfl) ?_
  refine KO.loudN rfl (l_store1 ck_66 rfl rfl rfl (by repeat (first | exact Pick.here | apply Pick.there)) (by repeat (first | exact SetAt.here | apply SetAt.there))) ?_
  rintro _ _ ⟨rfl, rfl⟩
  refine KO.done ?_
  refine K.seq ?_
  refine K.region ?_
  refine KO.q rfl (q_assign rfl) ?_
  refine KO.done ?_
  refine K.seq <| K.block ?_
  refine K.rounds2 (ι := { s : DropS // k.drop who = (s.out ++ s.k.pump.1, s.k.pump.2) ∧ s.k.hold.length + s.k.line.length ≤ 1000000000 ∧ s.out.length + s.k.line.length ≤ 1000000000 }) (fun s => [(6, .slice s.1.po s.1.out.length s.1.co), (0, .pointer (some ⟨b, 0, none⟩))]) (fun s => RowO (Kd.int .i64) 3 s.1.po s.1.co s.1.out :: LkL b s.1.q1 s.1.c1 s.1.q2 s.1.c2 s.1.k ++ L) (fun s => s.1.k.line.length) ⟨⟨k.without who, [], q1, c1, q2, c2, none, 0⟩, rfl, hw.1, hw.2⟩ (by repeat (first | exact Env.sub_nil _ | refine Env.sub_cons rfl ?_)) (fun w h => rowO_nil (k := Kd.int .i64) 3 (h.fit (M := LkL b q1 c1 q2 c2 (k.without who)) (by repeat (first | exact Give.nil | (apply Give.perI; (repeat (first | exact List.Mem.head _ | apply List.Mem.tail))) | (apply Give.own; (repeat (first | exact Pick.here | apply Pick.there))))) (by repeat (first | exact Drop.refl | apply Drop.skip)))) (fun s ih => ?_)
  obtain ⟨⟨⟨H0, l0⟩, out, q1, c1, q2, c2, po, co⟩, hd, hn, hn2⟩ := s
  dsimp only at hd hn hn2 ⊢
  refine K.fact (fun w h => rowO_cap (e := 100) (k := Kd.one1) (p := q2) (cap := c2) (xs := l0) (by repeat (first | exact List.Mem.head _ | apply List.Mem.tail)) w h) (fun hc2 => ?_)
  refine K.seq <| K.seq ?_
  refine K.region ?_
  refine KO.q rfl (q_move rfl) ?_
  refine KO.q rfl (q_nilCheck rfl) ?_
  refine KO.q rfl (q_field fo_68_1 rfl) ?_
  refine KO.q rfl (q_load1D ck_66 rfl) ?_
  refine KO.q rfl (q_len Tryz.underlying66 rfl) ?_
  refine KO.q rfl (q_gt rfl rfl) ?_
  refine KO.q rfl (q_move rfl) ?_
  refine KO.dsplit 34 rfl (fun g34 => ?_) (fun g34 => ?_)
  · rcases l0 with _ | ⟨x, l⟩
    · exact absurd g34 (by simp)
    simp only [List.length_cons] at hn hn2 hc2
    refine KO.q rfl (q_move rfl) ?_
    refine KO.q rfl (q_move rfl) ?_
    refine KO.q rfl (q_nilCheck rfl) ?_
    refine KO.q rfl (q_field fo_68_1 rfl) ?_
    refine KO.q rfl (q_load1D ck_66 rfl) ?_
    refine KO.q rfl (q_ix 0 se_66 rfl rfl rfl isO (by repeat (first | exact List.Mem.head _ | apply List.Mem.tail)) rfl (Nat.succ_pos _)) ?_
    refine KO.q rfl (q_ldEN (el := x) ck_100 rfl isO (by repeat (first | exact List.Mem.head _ | apply List.Mem.tail)) rfl) ?_
    refine KO.loud rfl (OpL.callD rfl (h := lk_fits b q1 c1 q2 c2 ⟨H0, x :: l⟩ x (by show H0.length ≤ _; omega))) ?_
    rintro _ _ ⟨_, ⟨rfl, rfl⟩, rfl⟩
    refine KO.q rfl (q_pickT rfl rfl) ?_
    refine KO.done ?_
    refine K.bcond (s := 43) rfl (fun g43 => ?_) (fun g43 => ?_)
    · refine K.skip <| K.block <| K.seq ?_
      refine K.region ?_
      refine KO.q rfl (q_move rfl) ?_
      refine KO.q rfl (q_move rfl) ?_
      refine KO.q rfl (q_nilCheck rfl) ?_
      refine KO.q rfl (q_field fo_68_1 rfl) ?_
      refine KO.q rfl (q_load1D ck_66 rfl) ?_
      refine KO.q rfl (q_ix 0 se_66 rfl rfl rfl isO (by repeat (first | exact List.Mem.head _ | apply List.Mem.tail)) rfl (Nat.succ_pos _)) ?_
      refine KO.q rfl (q_ldEN (el := x) ck_100 rfl isO (by repeat (first | exact List.Mem.head _ | apply List.Mem.tail)) rfl) ?_
      refine KO.loud rfl (OpL.callD rfl (h := lk_grant b q1 c1 q2 c2 ⟨H0, x :: l⟩ x (by show H0.length ≤ _; omega))) ?_
      rintro _ _ ⟨_, ⟨qn, cn, rfl, rfl⟩, rfl⟩
      obtain ⟨H, hH⟩ : ∃ H, (Lk.mk H0 (x :: l)).grant x = ⟨H, x :: l⟩ := ⟨_, Lk.grant_line _ _ _⟩
      rw [hH]
      refine KO.done ?_
      refine K.seq ?_
      refine K.region ?_
      refine KO.q rfl (q_move rfl) ?_
      refine KO.q rfl (q_move rfl) ?_
      refine KO.q rfl (q_nilCheck rfl) ?_
      refine KO.q rfl (q_field fo_68_1 rfl) ?_
      refine KO.q rfl (q_load1D ck_66 rfl) ?_
      refine KO.q rfl (q_ix 0 se_66 rfl rfl rfl isO (by repeat (first | exact List.Mem.head _ | apply List.Mem.tail)) rfl (Nat.succ_pos _)) ?_
      refine KO.q rfl (q_fieldE fo_100_0 rfl) ?_
      refine KO.q rfl (q_ldE (el := x) ck_3 rfl isO (by repeat (first | exact List.Mem.head _ | apply List.Mem.tail)) rfl rfl) ?_
      refine KO.loud rfl (l_slice sz_39_1 rfl (by repeat (first | exact Fill.nil | (apply Fill.cons; rfl; rfl; rfl) | exact SetN.nil | apply SetN.cons | exact SetAt.here | apply SetAt.there))) ?_
      rintro _ _ ⟨b60, rfl, rfl⟩
      refine KO.loud rfl (l_append (Kd.int .i64) (ys := [x.who]) se_39 Tryz.underlying39 ⟨_, ze_3, rfl⟩ (by decide) rfl rfl (by repeat (first | exact Pick.here | apply Pick.there)) isP (by repeat (first | exact List.Mem.head _ | apply List.Mem.tail)) rfl rfl (by show (2 * (out.length + 1) + 768) * 8 ≤ _; omega)) ?_
      rintro _ _ ⟨pn, dn, rfl, rfl⟩
      refine KO.q rfl (q_assign rfl) ?_
      refine KO.done ?_
      refine K.region ?_
      refine KO.q rfl (q_move rfl) ?_
      refine KO.q rfl (q_move rfl) ?_
      refine KO.q rfl (q_nilCheck rfl) ?_
      refine KO.q rfl (q_field fo_68_1 rfl) ?_
      refine KO.q rfl (q_load1D ck_66 rfl) ?_
      refine KO.loud rfl (OpL.callD rfl (h := del_one q2 c2 (x :: l) 0 (Nat.succ_pos _) hc2 (by show l.length + 1 ≤ _; omega))) ?_
      rintro _ _ ⟨_, ⟨rfl, rfl⟩, rfl⟩
      refine KO.q rfl (q_nilCheck rfl) ?_
      refine KO.q rfl (q_field fo_68_1 rfl) ?_
      refine KO.loudN rfl (l_store1 ck_66 rfl rfl rfl (by repeat (first | exact Pick.here | apply Pick.there)) (by repeat (first | exact SetAt.here | apply SetAt.there))) ?_
      rintro _ _ ⟨rfl, rfl⟩
      refine KO.done ?_
      refine K.inBlock ?_
      exact K.weak (by repeat (first | exact Env.sub_nil _ | refine Env.sub_cons rfl ?_)) (fun w h => h.fitD) (ih ⟨⟨⟨H, l⟩, out ++ [x.who], qn, cn, q2, c2, pn, dn⟩, by
        show k.drop who = _
        have hp := pump_go (k := ⟨H0, x :: l⟩) rfl g43
        rw [hH] at hp
        rw [hd, hp, List.append_assoc]
        rfl, by
        have := Lk.grant_len ⟨H0, x :: l⟩ x
        rw [hH] at this
        show H.length + l.length ≤ _
        have : H.length ≤ H0.length + 1 := this
        omega, by show (out ++ [x.who]).length + l.length ≤ _; rw [List.length_append]; show out.length + 1 + l.length ≤ _; omega⟩ (Nat.lt_succ_self _))
    · refine K.exit rfl ?_
      refine K.seq ?_
      have hr : k.drop who = (out, ⟨H0, x :: l⟩) := by
        rw [hd, pump_stop (by intro y hy; cases hy; exact g43), List.append_nil]
      rw [hr]
      refine K.region ?_
      refine KO.q rfl (q_move rfl) ?_
      refine KO.q rfl (q_assign rfl) ?_
      refine KO.done ?_
      refine K.ret (fn := Tryz.f35) Tryz.func35 (fun a w hk hs => res1 Tryz.results35 hk rfl) (fun w hs => ?_)
      exact ⟨_, RowO (Kd.int .i64) 3 po co out :: LkL b q1 c1 q2 c2 ⟨H0, x :: l⟩, rfl, ⟨q1, c1, q2, c2, po, co, rfl, rfl⟩, hs.fitD⟩
  · rcases l0 with _ | ⟨x, l⟩
    rotate_left
    · exact absurd g34 (by simp only [List.length_cons]; omega)
    refine KO.skip rfl ?_
    refine KO.skip rfl ?_
    refine KO.skip rfl ?_
    refine KO.skip rfl ?_
    refine KO.skip rfl ?_
    refine KO.skip rfl ?_
    refine KO.skip rfl ?_
    refine KO.skip rfl ?_
    refine KO.q rfl (q_pickF rfl rfl) ?_
    refine KO.done ?_
    refine K.no rfl ?_
    refine K.exit rfl ?_
    refine K.seq ?_
    have hr : k.drop who = (out, ⟨H0, []⟩) := by
      rw [hd, pump_stop (by intro y hy; cases hy), List.append_nil]
    rw [hr]
    refine K.region ?_
    refine KO.q rfl (q_move rfl) ?_
    refine KO.q rfl (q_assign rfl) ?_
    refine KO.done ?_
    refine K.ret (fn := Tryz.f35) Tryz.func35 (fun a w hk hs => res1 Tryz.results35 hk rfl) (fun w hs => ?_)
    exact ⟨_, RowO (Kd.int .i64) 3 po co out :: LkL b q1 c1 q2 c2 ⟨H0, []⟩, rfl, ⟨q1, c1, q2, c2, po, co, rfl, rfl⟩, hs.fitD⟩
end Go.Proofs.YtcpkcjabmookmaaGreat.L
