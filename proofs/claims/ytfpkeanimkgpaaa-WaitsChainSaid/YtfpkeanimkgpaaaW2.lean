/- Walks: who waits for whom, as a map of rows: whom one reaches. -/
import Derived.Test.YtfpkeanimkgpaaaW1
namespace Go.Proofs.Ytfpkeanimkgpaaa.L
open Go Go.RowKit
/-- An owned row, its front given away. -/
theorem rowO_drop {α : Type} {k : Kd α} {e : TypeId} {p : Option Addr} {cap : Nat} {xs : List α} {ρ : World} {L : List HP} {w : World} (n : Nat) (hn : n ≤ xs.length) (h : St ρ (RowO k e p cap xs :: L) w) : St ρ (RowO k e (cutAddr p cap n k.sz) (cap - n) (xs.drop n) :: L) w :=
  h.turn fun g q ha => by
    rcases (ha : _ ∨ _) with ⟨h1, h2, h3⟩ | ⟨b, o, c, hp, hl, hb, hs, hr⟩
    · subst h1 h2 h3
      refine .inl ⟨?_, by omega, by simp⟩
      unfold cutAddr
      split <;> rfl
    · subst hp
      by_cases hc : cap = n
      · refine .inr ⟨b, o, c, ?_, ?_, hb, ?_, ?_⟩
        · unfold cutAddr; rw [if_pos hc]
        · rw [List.length_drop]; omega
        · rw [hc, Nat.sub_self, Nat.zero_mul]; omega
        · rw [List.drop_eq_nil_of_le (by omega)]
          intro i x hx
          cases hx
      · refine .inr ⟨b, o + n * k.sz, c, ?_, ?_, hb, ?_, hr.drop n⟩
        · unfold cutAddr
          rw [if_neg hc, Option.map_some]
          unfold Addr.add
          split
          · rename_i h0; rw [h0]; rfl
          · rfl
        · rw [List.length_drop]; omega
        · have h5 : n * k.sz + (cap - n) * k.sz = cap * k.sz := by rw [← Nat.add_mul]; congr 1; omega
          omega
/-- One number in a block of one's own, as a row. -/
theorem pv_own1 {b : Nat} {e : TypeId} {n : Int} {ρ : World} {L : List HP} {w : World} (h : St ρ (pv b e [.int .i64 n] :: L) w) : St ρ (RowO (Kd.int .i64) e (some ⟨b, 0, none⟩) 1 [n] :: L) w :=
  h.turn fun g q ha => .inr ⟨b, 0, [Value.int .i64 n].toArray, rfl, Nat.le_refl _, ha, Nat.le_refl _, fun i x hx => by
    cases i with
    | zero =>
      obtain rfl : n = x := by simpa using hx
      refine ⟨[.int .i64 n], rfl, fun j v hv => ?_⟩
      cases j with
      | zero => exact hv
      | succ j => cases hv
    | succ i => cases hx⟩
end Go.Proofs.Ytfpkeanimkgpaaa.L
namespace Go.Proofs.Ytfpkeanimkgpaaa.L
open Go Go.Proofs
attribute [local irreducible] pv fv pt fz RowF RowO rowP old pure_ elA
set_option maxRecDepth 100000
set_option linter.unusedSimpArgs false
set_option linter.unusedVariables false

/-! ### Whom one reaches -/
inductive Reach (f : Int → List Int) : Int → Int → Prop where
  | one {x y : Int} : y ∈ f x → Reach f x y
  | more {x y z : Int} : Reach f x z → y ∈ f z → Reach f x y
/-- On the way: reached so far S, still to be worked off W. -/
structure Rch (f : Int → List Int) (who : Int) (S W : List Int) : Prop where
  nd : S.Nodup
  sound : ∀ y ∈ S, Reach f who y
  work : ∀ y ∈ W, y = who ∨ y ∈ S
  done : ∀ x, x = who ∨ x ∈ S → x ∈ W ∨ ∀ y ∈ f x, y ∈ S
theorem Rch.start (f : Int → List Int) (who : Int) : Rch f who [] [who] := ⟨List.nodup_nil, (fun y h => by cases h), (fun y h => .inl (List.mem_singleton.1 h)), fun x h => .inl (by rcases h with rfl | h; exact List.mem_singleton.2 rfl; cases h)⟩
theorem Rch.all {f : Int → List Int} {who : Int} {S : List Int} (h : Rch f who S []) (y : Int) : y ∈ S ↔ Reach f who y := by
  refine ⟨h.sound y, fun hr => ?_⟩
  have hd : ∀ x, x = who ∨ x ∈ S → ∀ y ∈ f x, y ∈ S := fun x hx => (h.done x hx).elim (fun h => by cases h) id
  induction hr with
  | one h1 => exact hd _ (.inl rfl) _ h1
  | more _ h1 ih => exact hd _ (.inr ih) _ h1
/-- A number put in, if it is new. -/
def putS (S : List Int) (y : Int) : List Int := if y ∈ S then S else S ++ [y]
def putW (S W : List Int) (y : Int) : List Int := if y ∈ S then W else W ++ [y]
theorem mem_putS {S : List Int} {x y : Int} : x ∈ putS S y ↔ x ∈ S ∨ x = y := by
  unfold putS
  split
  · rename_i h
    exact ⟨.inl, fun h2 => h2.elim id (fun e => e ▸ h)⟩
  · rw [List.mem_append, List.mem_singleton]
/-- On the way through the row of x: the first j of it are taken up. -/
structure Mid (f : Int → List Int) (who x : Int) (T S W : List Int) : Prop where
  nd : S.Nodup
  sound : ∀ y ∈ S, Reach f who y
  work : ∀ y ∈ W, y = who ∨ y ∈ S
  done : ∀ z, z = who ∨ z ∈ S → z = x ∨ z ∈ W ∨ ∀ y ∈ f z, y ∈ S
  took : ∀ y ∈ T, y ∈ S
  src : x = who ∨ x ∈ S
theorem Mid.step {f : Int → List Int} {who x y : Int} {T S W : List Int} (h : Mid f who x T S W) (hy : y ∈ f x) : Mid f who x (T ++ [y]) (putS S y) (putW S W y) := by
  refine ⟨?_, fun z hz => ?_, fun z hz => ?_, fun z hz => ?_, fun z hz => ?_, ?_⟩
  · unfold putS
    split
    · exact h.nd
    · rename_i hn
      rw [List.nodup_append]
      exact ⟨h.nd, by simp, fun a ha b hb hab => by rw [List.mem_singleton.1 hb] at hab; exact hn (hab ▸ ha)⟩
  · rcases mem_putS.1 hz with h1 | rfl
    · exact h.sound z h1
    · rcases h.src with rfl | h2
      · exact .one hy
      · exact .more (h.sound x h2) hy
  · unfold putW at hz
    split at hz
    · exact (h.work z hz).imp id (fun h1 => mem_putS.2 (.inl h1))
    · rcases List.mem_append.1 hz with h1 | h1
      · exact (h.work z h1).imp id (fun h1 => mem_putS.2 (.inl h1))
      · exact .inr (mem_putS.2 (.inr (List.mem_singleton.1 h1)))
  · by_cases hyS : y ∈ S
    · have e1 : putS S y = S := if_pos hyS
      have e2 : putW S W y = W := if_pos hyS
      rw [e1] at hz ⊢
      rw [e2]
      exact h.done z hz
    · have e2 : putW S W y = W ++ [y] := if_neg hyS
      rw [e2]
      by_cases hzy : z = y
      · exact .inr (.inl (List.mem_append.2 (.inr (List.mem_singleton.2 hzy))))
      · have hz2 : z = who ∨ z ∈ S := hz.imp id (fun h1 => (mem_putS.1 h1).elim id (fun e => absurd e hzy))
        rcases h.done z hz2 with h1 | h1 | h1
        · exact .inl h1
        · exact .inr (.inl (List.mem_append.2 (.inl h1)))
        · exact .inr (.inr (fun u hu => mem_putS.2 (.inl (h1 u hu))))
  · rcases List.mem_append.1 hz with h1 | h1
    · exact mem_putS.2 (.inl (h.took z h1))
    · exact mem_putS.2 (.inr (List.mem_singleton.1 h1))
  · exact h.src.imp id (fun h1 => mem_putS.2 (.inl h1))
theorem Rch.mid {f : Int → List Int} {who x : Int} {S W : List Int} (h : Rch f who S W) (hx : x ∈ W) : Mid f who x [] S W := ⟨h.nd, h.sound, h.work, fun z hz => .inr (h.done z hz), (fun y h => by cases h), h.work x hx⟩
theorem Mid.rch {f : Int → List Int} {who x : Int} {S W W' : List Int} (h : Mid f who x (f x) S W) (hw : ∀ y ∈ W', y ∈ W) (hw2 : ∀ y ∈ W, y ∈ W' ∨ y = x) : Rch f who S W' := by
  refine ⟨h.nd, h.sound, fun y hy => h.work y (hw y hy), fun z hz => ?_⟩
  by_cases hzx : z = x
  · subst hzx; exact .inr h.took
  · rcases h.done z hz with h1 | h1 | h1
    · exact absurd h1 hzx
    · exact .inl ((hw2 z h1).elim id (fun e => absurd e hzx))
    · exact .inr h1
/-- The sum that falls. -/
def rMeas (U S W : List Int) : Nat := 2 * (U.length - S.length) + W.length
theorem rMeas_step {U S W : List Int} {y : Int} (hU : (putS S y).length ≤ U.length) : rMeas U (putS S y) (putW S W y) ≤ rMeas U S W := by
  unfold rMeas putS putW at *
  split
  · exact Nat.le_refl _
  · rename_i h
    rw [if_neg h, List.length_append] at hU
    rw [List.length_append, List.length_append]
    simp only [List.length_cons, List.length_nil] at hU ⊢
    omega
theorem mapGet_set (S : List Int) (x : Int) : mapGet (S.map fun n => (n, Value.bool true)) x = if x ∈ S then some (.bool true) else none := by
  induction S with
  | nil => rfl
  | cons a l ih =>
    show (if x = a then some (Value.bool true) else mapGet (l.map fun n => (n, Value.bool true)) x) = _
    by_cases h : x = a
    · rw [if_pos h, if_pos (by rw [h]; exact List.mem_cons_self)]
    · rw [if_neg h, ih]
      by_cases h2 : x ∈ l
      · rw [if_pos h2, if_pos (List.mem_cons_of_mem _ h2)]
      · rw [if_neg h2, if_neg (fun h3 => (List.mem_cons.1 h3).elim h h2)]
theorem mapPut_set (S : List Int) (x : Int) (h : x ∉ S) : mapPut (S.map fun n => (n, Value.bool true)) x (.bool true) = (S ++ [x]).map fun n => (n, Value.bool true) := by
  induction S with
  | nil => rfl
  | cons a l ih =>
    show (if x = a then _ else _) = _
    rw [if_neg (fun e => h (by rw [e]; exact List.mem_cons_self)), ih (fun h2 => h (List.mem_cons_of_mem _ h2))]
    rfl
def setO (b : Nat) (S : List Int) : HP := mpO encI b (S.map fun n => (n, Value.bool true))
theorem ne_cons {α : Type} {l : List α} (h : (0 : Int) < (l.length : Int)) : ∃ x t, l = x :: t := by
  cases l with
  | nil => exact absurd h (by simp)
  | cons x t => exact ⟨x, t, rfl⟩
theorem no_cons {α : Type} {l : List α} (h : ¬ (0 : Int) < (l.length : Int)) : l = [] := by
  cases l with
  | nil => rfl
  | cons x t => exact absurd (show (0 : Int) < ((t.length + 1 : Nat) : Int) by omega) h
theorem head_cons {α : Type} {l : List α} {x : α} (h : l[0]? = some x) : ∃ t, l = x :: t := by
  cases l with
  | nil => cases h
  | cons z t => exact ⟨t, by simpa using h⟩
section
variable {X : Fx} {E : Env} {L L1 : List HP} {d : Option Tmp} {ty : TypeId} {pos : String} {af : Array Edge} {gd : Option (Nat × Bool)} {t : TypeId} {x ix y : Operand}
theorem q_lookupS {b : Nat} {S : List Int} {k : Int} (hP : X.P = Try.prog) (ht : X.P.underlying t = some (.map 3 4)) (hx : Env.ev E x = some (.map (some b))) (hi : Env.ev E ix = some (.int .i64 k)) (m : setO b S ∈ L) : OpQ X ⟨d, .lookup t x ix false, ty, pos, af, gd⟩ E L (.bool (decide (k ∈ S))) := by
  have h := q_lookup (X := X) (d := d) (ty := ty) (pos := pos) (af := af) (gd := gd) (n := k) (enc := encI) (es := S.map fun n => (n, Value.bool true)) ht (by rw [hP]; exact mk_int) (by rw [hP]; exact zv_bool) hx hi m
  have e : (mapGet (S.map fun n => (n, Value.bool true)) k).getD (.bool false) = .bool (decide (k ∈ S)) := by
    rw [mapGet_set]
    by_cases h : k ∈ S
    · rw [if_pos h, decide_eq_true h]; rfl
    · rw [if_neg h, decide_eq_false h]; rfl
  rwa [e] at h
theorem l_putS {b : Nat} {S : List Int} {k : Int} (hk : k ∉ S) (hP : X.P = Try.prog) (ht : X.P.underlying t = some (.map 3 4)) (hx : Env.ev E x = some (.map (some b))) (hi : Env.ev E ix = some (.int .i64 k)) (hy : Env.ev E y = some (.bool true)) (hp : Pick L (setO b S) L1) :
    OpL X ⟨d, .mapUpdate t x ix y, ty, pos, af, gd⟩ E L (fun v' L' => v' = undef ∧ L' = setO b (S ++ [k]) :: L1) := by
  have h := l_mapUpdate (X := X) (d := d) (ty := ty) (pos := pos) (af := af) (gd := gd) (n := k) (enc := encI) (es := S.map fun n => (n, Value.bool true)) (v := .bool true) ht (by rw [hP]; exact mk_int) hx hi hy hp
  rw [mapPut_set S k hk] at h
  exact h
end
set_option maxHeartbeats 3200000 in
theorem gr_from (b : Nat) (f : Int → List Int) (who : Int) (U : List Int) (hU : ∀ x y, y ∈ f x → y ∈ U) (hUl : U.length ≤ 100000) (hfl : ∀ x, (f x).length ≤ 100000) : Fn Try.prog 51 [.map (some b), .int .i64 who].toArray [GX b f] (fun r post => ∃ m S, r = .map (some m) ∧ (S.Nodup ∧ ∀ y, y ∈ S ↔ Reach f who y) ∧ post = [setO m S, GX b f]) := by
  have hSU : ∀ {S : List Int}, S.Nodup → (∀ y ∈ S, Reach f who y) → S.length ≤ U.length := fun {S} h1 h2 => nodup_len h1 (fun y hy => by
    have := h2 y hy
    cases this with
    | one h3 => exact hU _ _ h3
    | more _ h3 => exact hU _ _ h3)
  refine Fn.enter (N := 39) Try.func51 rfl Try.ntmps51 (by kernel_rfl) rfl (fun ρ L => ?_)
  refine K.seq ?_
  refine K.region ?_
  refine KO.q rfl (q_assign rfl) ?_
  refine KO.done ?_
  refine K.seq ?_
  refine K.region ?_
  refine KO.loud rfl (l_makeMap encI) ?_
  rintro _ _ ⟨b9, rfl, rfl⟩
  refine KO.q rfl (q_assign rfl) ?_
  refine KO.done ?_
  refine K.seq <| K.seq ?_
  refine K.region ?_
  refine KO.q rfl (q_move rfl) ?_
  refine KO.loud rfl (l_slice sz_36_1 rfl (by repeat (first | exact Fill.nil | (apply Fill.cons; rfl; rfl; rfl) | exact SetN.nil | apply SetN.cons | exact SetAt.here | apply SetAt.there))) ?_
  rintro _ _ ⟨b11, rfl, rfl⟩
  refine KO.q rfl (q_assign rfl) ?_
  refine KO.done ?_
  refine K.st (fun w h => pv_own1 (h.pick (by repeat (first | exact Pick.here | apply Pick.there)))) ?_
  refine K.block ?_
  refine K.rounds2 (ι := { s : (List Int × List Int) × Option Addr × Nat // Rch f who s.1.1 s.1.2 ∧ rMeas U s.1.1 s.1.2 ≤ 2 * U.length + 1 }) (fun s => [(6, .slice s.1.2.1 s.1.1.2.length s.1.2.2), (5, .map (some b9)), (0, .map (some b))]) (fun s => [RowO (Kd.int .i64) 3 s.1.2.1 s.1.2.2 s.1.1.2, setO b9 s.1.1.1, GX b f] ++ L) (fun s => rMeas U s.1.1.1 s.1.1.2) ⟨(([], [who]), (some ⟨b11, 0, none⟩, 1)), Rch.start f who, by unfold rMeas; simp⟩ (by repeat (first | exact Env.sub_nil _ | refine Env.sub_cons rfl ?_)) (fun w h => h.fitD) (fun s ih => ?_)
  obtain ⟨⟨⟨S, W⟩, p, c⟩, hr, hme⟩ := s
  dsimp only at hr hme ⊢
  refine K.seq <| K.seq ?_
  refine K.region ?_
  refine KO.q rfl (q_move rfl) ?_
  refine KO.q rfl (q_len Try.underlying36 rfl) ?_
  refine KO.q rfl (q_gt rfl rfl) ?_
  refine KO.done ?_
  refine K.dcond (s := 14) rfl (fun g14 => ?_) (fun g14 => ?_)
  · obtain ⟨x, W0, rfl⟩ := ne_cons g14
    have hm0 := hr.mid List.mem_cons_self
    refine K.skip <| K.seq <| K.block <| K.seq ?_
    refine K.ex (fun w h => gx_open x (h.pick (by repeat (first | exact Pick.here | apply Pick.there)))) (fun a => ?_)
    refine K.region ?_
    refine KO.q rfl (q_move rfl) ?_
    refine KO.q rfl (q_move rfl) ?_
    refine KO.q rfl (q_ix (xs := x :: W0) 0 se_36 rfl rfl rfl isO (by repeat (first | exact List.Mem.head _ | apply List.Mem.tail)) rfl (Nat.succ_pos _)) ?_
    refine KO.q rfl (q_ldE (xs := x :: W0) (el := x) ck_3 rfl isO (by repeat (first | exact List.Mem.head _ | apply List.Mem.tail)) rfl rfl) ?_
    refine KO.q rfl (q_lookupG a rfl Try.underlying87 rfl rfl (by repeat (first | exact List.Mem.head _ | apply List.Mem.tail))) ?_
    refine KO.q rfl (q_len Try.underlying36 rfl) ?_
    refine KO.q rfl (q_move rfl) ?_
    refine KO.done ?_
    refine K.block ?_
    obtain ⟨g, hg⟩ : ∃ g, g = f x := ⟨_, rfl⟩
    have hgl : g.length ≤ 100000 := by rw [hg]; exact hfl x
    rw [← hg]
    refine K.rounds2 (ι := { s : Nat × (List Int × List Int) × Option Addr × Nat // s.1 ≤ g.length ∧ Mid f who x (g.take s.1) s.2.1.1 s.2.1.2 ∧ s.2.1.2[0]? = some x ∧ rMeas U s.2.1.1 s.2.1.2 ≤ rMeas U S (x :: W0) }) (fun s => [(23, .int .i64 s.1.1), (22, .int .i64 g.length), (21, .slice a.p g.length a.c), (6, .slice s.1.2.2.1 s.1.2.1.2.length s.1.2.2.2), (5, .map (some b9)), (0, .map (some b))]) (fun s => [RowO (Kd.int .i64) 3 s.1.2.2.1 s.1.2.2.2 s.1.2.1.2, setO b9 s.1.2.1.1, mpO encI b (gEnts a.gs), RowO (Kd.int .i64) 3 a.p a.c g, AllO GEO a.rest] ++ L) (fun s => g.length - s.1.1) ⟨(0, (S, x :: W0), (p, c)), Nat.zero_le _, hm0, rfl, Nat.le_refl _⟩ (by repeat (first | exact Env.sub_nil _ | refine Env.sub_cons rfl ?_)) (fun w h => h.fitD) (fun s ih2 => ?_)
    obtain ⟨⟨j, ⟨S1, W1⟩, p, c⟩, hj, hmid, hx0, hme1⟩ := s
    dsimp only at hj hmid hx0 hme1 ⊢
    refine K.seq ?_
    refine K.region ?_
    refine KO.q rfl (q_lt rfl rfl) ?_
    refine KO.done ?_
    refine K.seq ?_
    refine K.dcond (s := 24) rfl (fun g24 => ?_) (fun g24 => ?_)
    · obtain ⟨y, hy⟩ : ∃ y, g[j]? = some y := ⟨_, List.getElem?_eq_getElem (by omega)⟩
      have hstep := hmid.step (y := y) (by rw [← hg]; exact List.mem_of_getElem? hy)
      have htk : g.take j ++ [y] = g.take (j + 1) := by rw [List.take_add_one, hy]; rfl
      rw [htk] at hstep
      have hms := rMeas_step (U := U) (S := S1) (W := W1) (y := y) (hSU hstep.nd hstep.sound)
      have hW1 : W1.length ≤ 200001 := by
        have : W1.length ≤ rMeas U S1 W1 := Nat.le_add_left _ _
        omega
      have hx1 : (putW S1 W1 y)[0]? = some x := by
        unfold putW
        split
        · exact hx0
        · rw [List.getElem?_append_left (List.getElem?_eq_some_iff.1 hx0).1]; exact hx0
      refine K.skip <| K.seq <| K.block <| K.seq ?_
      refine K.region ?_
      refine KO.q rfl (q_ix (xs := g) j se_36 rfl rfl rfl isO (by repeat (first | exact List.Mem.head _ | apply List.Mem.tail)) rfl (by omega)) ?_
      refine KO.q rfl (q_ldE (xs := g) (el := y) ck_3 rfl isO (by repeat (first | exact List.Mem.head _ | apply List.Mem.tail)) hy rfl) ?_
      refine KO.q rfl (q_assign rfl) ?_
      refine KO.done ?_
      refine K.seq ?_
      refine K.region ?_
      refine KO.q rfl (q_move rfl) ?_
      refine KO.q rfl (q_move rfl) ?_
      refine KO.q rfl (q_lookupS rfl Try.underlying89 rfl rfl (by repeat (first | exact List.Mem.head _ | apply List.Mem.tail))) ?_
      refine KO.q rfl (q_not rfl) ?_
      refine KO.done ?_
      refine K.bcond (s := 30) rfl (fun g30 => ?_) (fun g30 => ?_)
      · have hn : y ∉ S1 := by simpa using g30
        have e1 : putS S1 y = S1 ++ [y] := if_neg hn
        have e2 : putW S1 W1 y = W1 ++ [y] := if_neg hn
        refine K.seq ?_
        refine K.region ?_
        refine KO.q rfl (q_move rfl) ?_
        refine KO.q rfl (q_move rfl) ?_
        refine KO.loudN rfl (l_putS hn rfl Try.underlying89 rfl rfl rfl (by repeat (first | exact Pick.here | apply Pick.there))) ?_
        rintro _ _ ⟨rfl, rfl⟩
        refine KO.done ?_
        refine K.region ?_
        refine KO.q rfl (q_move rfl) ?_
        refine KO.q rfl (q_move rfl) ?_
        refine KO.loud rfl (l_slice sz_36_1 rfl (by repeat (first | exact Fill.nil | (apply Fill.cons; rfl; rfl; rfl) | exact SetN.nil | apply SetN.cons | exact SetAt.here | apply SetAt.there))) ?_
        rintro _ _ ⟨b35, rfl, rfl⟩
        refine KO.loud rfl (l_append (Kd.int .i64) (ys := [y]) se_36 Try.underlying36 ⟨_, ze_3, rfl⟩ (by decide) rfl rfl (by repeat (first | exact Pick.here | apply Pick.there)) isP (by repeat (first | exact List.Mem.head _ | apply List.Mem.tail)) rfl rfl (by show (2 * (W1.length + 1) + 768) * 8 ≤ _; omega)) ?_
        rintro _ _ ⟨pn, dn, rfl, rfl⟩
        refine KO.q rfl (q_assign rfl) ?_
        refine KO.done ?_
        refine K.inBlock ?_
        refine K.region ?_
        refine KO.q rfl (q_add rfl rfl (by first | omega | (simp; omega)) (by first | omega | (simp; omega))) ?_
        refine KO.q rfl (q_move rfl) ?_
        refine KO.done ?_
        rw [e1, e2] at hstep hms
        rw [e2] at hx1
        exact K.weak (by repeat (first | exact Env.sub_nil _ | refine Env.sub_cons rfl ?_)) (fun w h => h.fitD) (ih2 ⟨(j + 1, (S1 ++ [y], W1 ++ [y]), pn, dn), by show j + 1 ≤ _; omega, hstep, hx1, Nat.le_trans hms hme1⟩ (by show g.length - (j + 1) < g.length - j; omega))
      · have hn : y ∈ S1 := by simpa using g30
        have e1 : putS S1 y = S1 := if_pos hn
        have e2 : putW S1 W1 y = W1 := if_pos hn
        refine K.skip <| K.inBlock ?_
        refine K.region ?_
        refine KO.q rfl (q_add rfl rfl (by first | omega | (simp; omega)) (by first | omega | (simp; omega))) ?_
        refine KO.q rfl (q_move rfl) ?_
        refine KO.done ?_
        rw [e1, e2] at hstep hms
        exact K.weak (by repeat (first | exact Env.sub_nil _ | refine Env.sub_cons rfl ?_)) (fun w h => h.fitD) (ih2 ⟨(j + 1, (S1, W1), p, c), by show j + 1 ≤ _; omega, hstep, hx0, hme1⟩ (by show g.length - (j + 1) < g.length - j; omega))
    · obtain rfl : j = g.length := by omega
      clear ih2
      rw [List.take_length] at hmid
      obtain ⟨W2, rfl⟩ := head_cons hx0
      have hrch : Rch f who S1 W2 := Mid.rch (W' := W2) (by rw [← hg]; exact hmid) (fun y hy => List.mem_cons_of_mem _ hy) (fun y hy => (List.mem_cons.1 hy).elim .inr .inl)
      have hme2 : rMeas U S1 W2 + 1 = rMeas U S1 (x :: W2) := by unfold rMeas; simp only [List.length_cons]; omega
      rw [hg]
      refine K.st (fun w h => gx_back a (h.fit (M := [mpO encI b (gEnts a.gs), RowO (Kd.int .i64) 3 a.p a.c (f x), AllO GEO a.rest, RowO (Kd.int .i64) 3 p c (x :: W2), setO b9 S1]) (by repeat (first | exact Give.nil | (apply Give.perI; (repeat (first | exact List.Mem.head _ | apply List.Mem.tail))) | (apply Give.own; (repeat (first | exact Pick.here | apply Pick.there))))) (by repeat (first | exact Drop.refl | apply Drop.skip)))) ?_
      refine K.fact (fun w h => rowO_cap (e := 3) (k := Kd.int .i64) (p := p) (cap := c) (xs := x :: W2) (by repeat (first | exact List.Mem.head _ | apply List.Mem.tail)) w h) (fun hc2 => ?_)
      refine K.st (fun w h => rowO_drop (xs := x :: W2) 1 (Nat.succ_le_succ (Nat.zero_le _)) (h.pick (by repeat (first | exact Pick.here | apply Pick.there)))) ?_
      refine K.exit rfl ?_
      refine K.inBlock ?_
      refine K.region ?_
      refine KO.q rfl (q_move rfl) ?_
      refine KO.q rfl (q_cutL se_36 rfl rfl (by decide) (by show (1 : Int) ≤ ((W2.length + 1 : Nat) : Int); omega) hc2) ?_
      refine KO.q rfl (q_assign rfl) ?_
      refine KO.done ?_
      exact K.weak (by repeat (first | exact Env.sub_nil _ | refine Env.sub_cons rfl ?_)) (fun w h => h.fitD) (ih ⟨((S1, W2), cutAddr p c 1 1, c - 1), hrch, by show rMeas U S1 W2 ≤ _; omega⟩ (by show rMeas U S1 W2 < rMeas U S (x :: W0); omega))
  · obtain rfl := no_cons g14
    refine K.exit rfl ?_
    refine K.seq ?_
    refine K.region ?_
    refine KO.q rfl (q_move rfl) ?_
    refine KO.q rfl (q_assign rfl) ?_
    refine KO.done ?_
    refine K.ret (fn := Try.f51) Try.func51 (fun a w hk hs => res1 Try.results51 hk rfl) (fun w hs => ?_)
    exact ⟨_, [setO b9 S, GX b f], rfl, ⟨b9, S, rfl, ⟨hr.nd, hr.all⟩, rfl⟩, hs.fitD⟩
end Go.Proofs.Ytfpkeanimkgpaaa.L
