/- The law WaitsRing, walked. -/
import Derived.Test.YtfpkeanimkgpaaaPW
import Derived.Test.YtfpkeanimkgpaaaLN
import Derived.Test.YtfpkeanimkgpaaaLG
namespace Go.Proofs.Ytfpkeanimkgpaaa.L
open Go Go.RowKit
section
variable {X : Fx} {E : Env} {L : List HP} {d : Option Tmp} {ty : TypeId} {pos : String} {af : Array Edge} {gd : Option (Nat × Bool)} {t u : TypeId} {x y : Operand}
/-- s[:h:m] -/
theorem q_cut3N {p : Option Addr} {n cap e sz bytes : Nat} {t : TypeId} {hi mx : Operand} {h m : Nat} (ht : slElem X.P t = some (e, sz, bytes)) (hx : Env.ev E x = some (.slice p n cap))
    (hh : Env.ev E hi = some (.int .i64 (h : Int))) (hm : Env.ev E mx = some (.int .i64 (m : Int))) (h2 : h ≤ m) (h3 : m ≤ cap) :
    OpQ X ⟨d, .slice t x none (some hi) (some mx), ty, pos, af, gd⟩ E L (.slice p h m) := fun _ w hk _ => by
  unfold slElem at ht
  cases hu : X.P.underlying t with
  | none => rw [hu] at ht; simp at ht
  | some ds =>
    cases ds <;> rw [hu] at ht <;> simp only [reduceCtorEq] at ht
    rename_i e'
    cases hi' : X.P.info? e' with
    | none => rw [hi'] at ht; simp at ht
    | some inf =>
      rw [hi'] at ht
      simp only [Option.some.injEq, Prod.mk.injEq] at ht
      obtain ⟨rfl, rfl, rfl⟩ := ht
      by_cases hm0 : m = 0
      · subst hm0
        obtain rfl : h = 0 := by omega
        cases p <;> simp [execOp, hk.ev hx, hk.ev hh, hk.ev hm, Instr.sliceAt, underlying, hu, Instr.slice, Instr.sliceBounds, Instr.sliceBound, asIntOf, sizeOf, typeInfo, hi']
      · cases p <;> simp [execOp, hk.ev hx, hk.ev hh, hk.ev hm, Instr.sliceAt, underlying, hu, Instr.slice, Instr.sliceBounds, Instr.sliceBound, asIntOf, h2, h3, sizeOf, typeInfo, hi', hm0, Addr.add]
theorem rowF_dup {α : Type} {k : Kd α} {ρ : World} {w : World} {p : Option Addr} {xs : List α} (m : RowF k p xs ∈ L) (h : St ρ L w) : St ρ (RowF k p xs :: L) w := St.dup rfl m h
theorem q_remN {a b : Nat} {k : IntKind} (hx : Env.ev E x = some (.int k (a : Int))) (hy : Env.ev E y = some (.int k (b : Int))) (hb : b ≠ 0) : OpQ X ⟨d, .binOp .rem t x y u, ty, pos, af, gd⟩ E L (.int k ((a % b : Nat) : Int)) := by
  have h := q_rem (X := X) (L := L) (d := d) (ty := ty) (pos := pos) (af := af) (gd := gd) (t := t) (u := u) hx hy (by omega)
  have e : ((a : Int).tmod (b : Int)) = ((a % b : Nat) : Int) := rfl
  rwa [e] at h
end
end Go.Proofs.Ytfpkeanimkgpaaa.L
namespace Go.Proofs.Ytfpkeanimkgpaaa.L
open Go Go.Proofs
attribute [local irreducible] pv fv pt fz RowF RowO rowP old pure_ elA
set_option maxRecDepth 100000
set_option linter.unusedSimpArgs false
set_option linter.unusedVariables false

def e2 (n : Nat) (ms : List Int) (j : Nat) : P2 := ⟨100 + (j : Int), ((mkN 1023 (ms.getD j 0) % n : Nat) : Int)⟩
def lR (n : Nat) (ms : List Int) : List P2 := (List.range n).map (e1 n) ++ (List.range ms.length).map (e2 n ms)
theorem map_range_succ {α : Type} (f : Nat → α) (i : Nat) : (List.range (i + 1)).map f = (List.range i).map f ++ [f i] := by rw [List.range_succ, List.map_append]; rfl
theorem lR_len (n : Nat) (ms : List Int) : (lR n ms).length = n + ms.length := by unfold lR; rw [List.length_append, List.length_map, List.length_map, List.length_range, List.length_range]
theorem lR_in {n : Nat} {ms : List Int} {i : Nat} (h : i < n) : e1 n i ∈ lR n ms := List.mem_append.2 (.inl (List.mem_map.2 ⟨i, List.mem_range.2 h, rfl⟩))
theorem lR_b {n : Nat} {ms : List Int} (hn : 1 ≤ n) : ∀ e ∈ lR n ms, 0 ≤ e.b ∧ e.b < n := fun e he => by
  have hm : ∀ z : Nat, ((z % n : Nat) : Int) < n := fun z => by
    have := Nat.mod_lt z (show 0 < n by omega)
    omega
  rcases List.mem_append.1 he with h | h
  · obtain ⟨i, _, rfl⟩ := List.mem_map.1 h
    exact ⟨Int.natCast_nonneg _, hm _⟩
  · obtain ⟨i, _, rfl⟩ := List.mem_map.1 h
    exact ⟨Int.natCast_nonneg _, hm _⟩
theorem lR_cut {n a : Nat} {ms : List Int} (ha : a < n) (hn : n ≤ 30) : ∀ e ∈ (lR n ms).take a ++ (lR n ms).drop (a + 1), rkR n a e.a < rkR n a e.b := fun e he => by
  have h1 : (∃ i, i < n ∧ i ≠ a ∧ e = e1 n i) ∨ ∃ j, e = e2 n ms j := by
    unfold lR at he
    rw [List.take_append_of_le_length (by rw [List.length_map, List.length_range]; omega), List.drop_append_of_le_length (by rw [List.length_map, List.length_range]; omega)] at he
    rcases List.mem_append.1 he with h | h
    · obtain ⟨i, hi, rfl⟩ := List.mem_iff_getElem.1 h
      rw [List.length_take, List.length_map, List.length_range] at hi
      exact .inl ⟨i, by omega, by omega, by rw [List.getElem_take, List.getElem_map, List.getElem_range]⟩
    · rcases List.mem_append.1 h with h | h
      · obtain ⟨i, hi, rfl⟩ := List.mem_iff_getElem.1 h
        rw [List.length_drop, List.length_map, List.length_range] at hi
        exact .inl ⟨a + 1 + i, by omega, by omega, by rw [List.getElem_drop, List.getElem_map, List.getElem_range]⟩
      · obtain ⟨j, _, rfl⟩ := List.mem_map.1 h
        exact .inr ⟨j, rfl⟩
  rcases h1 with ⟨i, hi, hne, rfl⟩ | ⟨j, rfl⟩
  · exact rkR_e1 hi hne ha
  · refine rkR_e2 ha (show (n : Int) ≤ 100 + (j : Int) by omega) ⟨Int.natCast_nonneg _, ?_⟩
    have := Nat.mod_lt (mkN 1023 (ms.getD j 0)) (show 0 < n by omega)
    show ((mkN 1023 (ms.getD j 0) % n : Nat) : Int) < n
    omega
set_option maxHeartbeats 6400000 in
theorem law_WaitsRing (n at_ from_ : Int) (q : Option Addr) (cap : Nat) (ms : List Int) (hc : ms.length ≤ cap) : Fn Try.prog 5 [.int .i64 n, .int .i64 at_, .int .i64 from_, .slice q ms.length cap].toArray [RowF (Kd.int .i64) q ms] (fun r post => r = .bool true ∧ post = []) := by
  refine Fn.enter (N := 139) Try.func5 rfl Try.ntmps5 (by kernel_rfl) rfl (fun ρ L => ?_)
  refine K.seq ?_
  refine K.region ?_
  refine KO.q rfl (q_assign rfl) ?_
  refine KO.done ?_
  refine K.seq ?_
  refine K.region ?_
  refine KO.loud rfl (OpL.callD rfl (h := l12_alive)) ?_
  rintro _ _ ⟨_, ⟨rfl, rfl⟩, rfl⟩
  refine KO.q rfl (q_assign rfl) ?_
  refine KO.done ?_
  refine K.seq <| K.seq ?_
  refine K.region ?_
  refine KO.q rfl (q_move rfl) ?_
  refine KO.q rfl (q_not rfl) ?_
  refine KO.q rfl (q_move rfl) ?_
  refine KO.q rfl (q_move rfl) ?_
  refine KO.q rfl (q_lt rfl rfl) ?_
  refine KO.q rfl (q_pickF rfl rfl) ?_
  refine KO.q rfl (q_move rfl) ?_
  refine KO.dsplit 24 rfl (fun g24 => ?_) (fun g24 => ?_)
  · refine KO.skip rfl ?_
    refine KO.skip rfl ?_
    refine KO.q rfl (q_pickT rfl rfl) ?_
    refine KO.q rfl (q_move rfl) ?_
    refine KO.skip rfl ?_
    refine KO.skip rfl ?_
    refine KO.q rfl (q_pickT rfl rfl) ?_
    refine KO.q rfl (q_move rfl) ?_
    refine KO.skip rfl ?_
    refine KO.skip rfl ?_
    refine KO.skip rfl ?_
    refine KO.q rfl (q_pickT rfl rfl) ?_
    refine KO.q rfl (q_move rfl) ?_
    refine KO.skip rfl ?_
    refine KO.skip rfl ?_
    refine KO.q rfl (q_pickT rfl rfl) ?_
    refine KO.q rfl (q_move rfl) ?_
    refine KO.skip rfl ?_
    refine KO.skip rfl ?_
    refine KO.skip rfl ?_
    refine KO.q rfl (q_pickT rfl rfl) ?_
    refine KO.q rfl (q_move rfl) ?_
    refine KO.skip rfl ?_
    refine KO.skip rfl ?_
    refine KO.skip rfl ?_
    refine KO.q rfl (q_pickT rfl rfl) ?_
    refine KO.done ?_
    refine K.yes rfl ?_
    refine K.seq ?_
    refine K.region ?_
    refine KO.q rfl (q_move rfl) ?_
    refine KO.q rfl (q_assign rfl) ?_
    refine KO.done ?_
    refine K.ret (fn := Try.f5) Try.func5 (fun a w hk hs => res1 Try.results5 hk rfl) (fun w hs => ?_)
    exact ⟨_, [], rfl, ⟨rfl, rfl⟩, hs.fitD⟩
  · refine KO.q rfl (q_move rfl) ?_
    refine KO.q rfl (q_gt rfl rfl) ?_
    refine KO.q rfl (q_pickF rfl rfl) ?_
    refine KO.q rfl (q_move rfl) ?_
    refine KO.dsplit 28 rfl (fun g28 => ?_) (fun g28 => ?_)
    · refine KO.skip rfl ?_
      refine KO.skip rfl ?_
      refine KO.q rfl (q_pickT rfl rfl) ?_
      refine KO.q rfl (q_move rfl) ?_
      refine KO.skip rfl ?_
      refine KO.skip rfl ?_
      refine KO.skip rfl ?_
      refine KO.q rfl (q_pickT rfl rfl) ?_
      refine KO.q rfl (q_move rfl) ?_
      refine KO.skip rfl ?_
      refine KO.skip rfl ?_
      refine KO.q rfl (q_pickT rfl rfl) ?_
      refine KO.q rfl (q_move rfl) ?_
      refine KO.skip rfl ?_
      refine KO.skip rfl ?_
      refine KO.skip rfl ?_
      refine KO.q rfl (q_pickT rfl rfl) ?_
      refine KO.q rfl (q_move rfl) ?_
      refine KO.skip rfl ?_
      refine KO.skip rfl ?_
      refine KO.skip rfl ?_
      refine KO.q rfl (q_pickT rfl rfl) ?_
      refine KO.done ?_
      refine K.yes rfl ?_
      refine K.seq ?_
      refine K.region ?_
      refine KO.q rfl (q_move rfl) ?_
      refine KO.q rfl (q_assign rfl) ?_
      refine KO.done ?_
      refine K.ret (fn := Try.f5) Try.func5 (fun a w hk hs => res1 Try.results5 hk rfl) (fun w hs => ?_)
      exact ⟨_, [], rfl, ⟨rfl, rfl⟩, hs.fitD⟩
    · refine KO.q rfl (q_move rfl) ?_
      refine KO.q rfl (q_lt rfl rfl) ?_
      refine KO.q rfl (q_pickF rfl rfl) ?_
      refine KO.q rfl (q_move rfl) ?_
      refine KO.dsplit 32 rfl (fun g32 => ?_) (fun g32 => ?_)
      · refine KO.skip rfl ?_
        refine KO.skip rfl ?_
        refine KO.skip rfl ?_
        refine KO.q rfl (q_pickT rfl rfl) ?_
        refine KO.q rfl (q_move rfl) ?_
        refine KO.skip rfl ?_
        refine KO.skip rfl ?_
        refine KO.q rfl (q_pickT rfl rfl) ?_
        refine KO.q rfl (q_move rfl) ?_
        refine KO.skip rfl ?_
        refine KO.skip rfl ?_
        refine KO.skip rfl ?_
        refine KO.q rfl (q_pickT rfl rfl) ?_
        refine KO.q rfl (q_move rfl) ?_
        refine KO.skip rfl ?_
        refine KO.skip rfl ?_
        refine KO.skip rfl ?_
        refine KO.q rfl (q_pickT rfl rfl) ?_
        refine KO.done ?_
        refine K.yes rfl ?_
        refine K.seq ?_
        refine K.region ?_
        refine KO.q rfl (q_move rfl) ?_
        refine KO.q rfl (q_assign rfl) ?_
        refine KO.done ?_
        refine K.ret (fn := Try.f5) Try.func5 (fun a w hk hs => res1 Try.results5 hk rfl) (fun w hs => ?_)
        exact ⟨_, [], rfl, ⟨rfl, rfl⟩, hs.fitD⟩
      · refine KO.q rfl (q_move rfl) ?_
        refine KO.q rfl (q_move rfl) ?_
        refine KO.q rfl (q_ge rfl rfl) ?_
        refine KO.q rfl (q_pickF rfl rfl) ?_
        refine KO.q rfl (q_move rfl) ?_
        refine KO.dsplit 37 rfl (fun g37 => ?_) (fun g37 => ?_)
        · refine KO.skip rfl ?_
          refine KO.skip rfl ?_
          refine KO.q rfl (q_pickT rfl rfl) ?_
          refine KO.q rfl (q_move rfl) ?_
          refine KO.skip rfl ?_
          refine KO.skip rfl ?_
          refine KO.skip rfl ?_
          refine KO.q rfl (q_pickT rfl rfl) ?_
          refine KO.q rfl (q_move rfl) ?_
          refine KO.skip rfl ?_
          refine KO.skip rfl ?_
          refine KO.skip rfl ?_
          refine KO.q rfl (q_pickT rfl rfl) ?_
          refine KO.done ?_
          refine K.yes rfl ?_
          refine K.seq ?_
          refine K.region ?_
          refine KO.q rfl (q_move rfl) ?_
          refine KO.q rfl (q_assign rfl) ?_
          refine KO.done ?_
          refine K.ret (fn := Try.f5) Try.func5 (fun a w hk hs => res1 Try.results5 hk rfl) (fun w hs => ?_)
          exact ⟨_, [], rfl, ⟨rfl, rfl⟩, hs.fitD⟩
        · refine KO.q rfl (q_move rfl) ?_
          refine KO.q rfl (q_lt rfl rfl) ?_
          refine KO.q rfl (q_pickF rfl rfl) ?_
          refine KO.q rfl (q_move rfl) ?_
          refine KO.dsplit 41 rfl (fun g41 => ?_) (fun g41 => ?_)
          · refine KO.skip rfl ?_
            refine KO.skip rfl ?_
            refine KO.skip rfl ?_
            refine KO.q rfl (q_pickT rfl rfl) ?_
            refine KO.q rfl (q_move rfl) ?_
            refine KO.skip rfl ?_
            refine KO.skip rfl ?_
            refine KO.skip rfl ?_
            refine KO.q rfl (q_pickT rfl rfl) ?_
            refine KO.done ?_
            refine K.yes rfl ?_
            refine K.seq ?_
            refine K.region ?_
            refine KO.q rfl (q_move rfl) ?_
            refine KO.q rfl (q_assign rfl) ?_
            refine KO.done ?_
            refine K.ret (fn := Try.f5) Try.func5 (fun a w hk hs => res1 Try.results5 hk rfl) (fun w hs => ?_)
            exact ⟨_, [], rfl, ⟨rfl, rfl⟩, hs.fitD⟩
          · refine KO.q rfl (q_move rfl) ?_
            refine KO.q rfl (q_move rfl) ?_
            refine KO.q rfl (q_ge rfl rfl) ?_
            refine KO.q rfl (q_pickF rfl rfl) ?_
            refine KO.q rfl (q_move rfl) ?_
            refine KO.dsplit 46 rfl (fun g46 => ?_) (fun g46 => ?_)
            · refine KO.skip rfl ?_
              refine KO.skip rfl ?_
              refine KO.skip rfl ?_
              refine KO.q rfl (q_pickT rfl rfl) ?_
              refine KO.done ?_
              refine K.yes rfl ?_
              refine K.seq ?_
              refine K.region ?_
              refine KO.q rfl (q_move rfl) ?_
              refine KO.q rfl (q_assign rfl) ?_
              refine KO.done ?_
              refine K.ret (fn := Try.f5) Try.func5 (fun a w hk hs => res1 Try.results5 hk rfl) (fun w hs => ?_)
              exact ⟨_, [], rfl, ⟨rfl, rfl⟩, hs.fitD⟩
            · refine KO.q rfl (q_move rfl) ?_
              refine KO.q rfl (q_len Try.underlying36 rfl) ?_
              refine KO.q rfl (q_gt rfl rfl) ?_
              refine KO.q rfl (q_pickF rfl rfl) ?_
              refine KO.done ?_
              refine K.dcond (s := 50) rfl (fun g50 => ?_) (fun g50 => ?_)
              · refine K.seq ?_
                refine K.region ?_
                refine KO.q rfl (q_move rfl) ?_
                refine KO.q rfl (q_assign rfl) ?_
                refine KO.done ?_
                refine K.ret (fn := Try.f5) Try.func5 (fun a w hk hs => res1 Try.results5 hk rfl) (fun w hs => ?_)
                exact ⟨_, [], rfl, ⟨rfl, rfl⟩, hs.fitD⟩
              · refine K.skip <| K.seq ?_
                obtain ⟨N, rfl⟩ : ∃ N : Nat, n = N := ⟨n.toNat, by omega⟩
                obtain ⟨a, rfl⟩ : ∃ a : Nat, at_ = a := ⟨at_.toNat, by omega⟩
                obtain ⟨v, rfl⟩ : ∃ v : Nat, from_ = v := ⟨from_.toNat, by omega⟩
                refine K.region ?_
                refine KO.q rfl (q_assign rfl) ?_
                refine KO.done ?_
                refine K.seq <| K.seq ?_
                refine K.region ?_
                refine KO.q rfl (q_assign rfl) ?_
                refine KO.done ?_
                refine K.st (fun w h => rowO_nil (k := Kd.p2) 39 h) ?_
                refine K.block ?_
                refine K.rounds2 (ι := { s : Nat × Option Addr × Nat // s.1 ≤ N }) (fun s => [(11, .int .i64 s.1.1), (10, .slice s.1.2.1 ((List.range s.1.1).map (e1 N)).length s.1.2.2), (0, .int .i64 N), (1, .int .i64 a), (2, .int .i64 v), (3, .slice q ms.length cap)]) (fun s => [RowO Kd.p2 39 s.1.2.1 s.1.2.2 ((List.range s.1.1).map (e1 N)), RowF (Kd.int .i64) q ms] ++ L) (fun s => N - s.1.1) ⟨(0, none, 0), Nat.zero_le _⟩ (by repeat (first | exact Env.sub_nil _ | refine Env.sub_cons rfl ?_)) (fun w h => h.fitD) (fun s ih => ?_)
                obtain ⟨⟨i, po, co⟩, hi⟩ := s
                dsimp only at hi ⊢
                obtain ⟨G, hG⟩ : ∃ G, G = (List.range i).map (e1 N) := ⟨_, rfl⟩
                have hGl : G.length = i := by rw [hG, List.length_map, List.length_range]
                rw [← hG]
                refine K.seq <| K.seq ?_
                refine K.region ?_
                refine KO.q rfl (q_move rfl) ?_
                refine KO.q rfl (q_move rfl) ?_
                refine KO.q rfl (q_lt rfl rfl) ?_
                refine KO.done ?_
                refine K.dcond (s := 54) rfl (fun g54 => ?_) (fun g54 => ?_)
                · have hsu : (List.range (i + 1)).map (e1 N) = G ++ [e1 N i] := by rw [map_range_succ, ← hG]
                  refine K.skip <| K.seq <| K.block ?_
                  refine K.region ?_
                  refine KO.q rfl (q_move rfl) ?_
                  refine KO.q rfl (q_move rfl) ?_
                  refine KO.q rfl (q_move rfl) ?_
                  refine KO.q rfl (q_add rfl rfl (by first | omega | (simp; omega)) (by first | omega | (simp; omega))) ?_
                  refine KO.q rfl (q_move rfl) ?_
                  refine KO.q rfl (q_remN (a := i + 1) rfl rfl (by omega)) ?_
                  refine KO.q rfl (q_as (q_buildA ar_p2 zo_39 rfl (by repeat (first | exact Fill.nil | (apply Fill.cons; rfl; rfl; rfl) | exact SetN.nil | apply SetN.cons | exact SetAt.here | apply SetAt.there))) (show _ = P2.cells (e1 N i) from rfl)) ?_
                  refine KO.loud rfl (l_slice1 sz_32_1 rfl rfl ⟨rfl, rfl, rfl⟩) ?_
                  rintro _ _ ⟨b64, rfl, rfl⟩
                  refine KO.loud rfl (l_append Kd.p2 (ys := [e1 N i]) se_32 Try.underlying32 ⟨_, ze_39, rfl⟩ (by decide) rfl rfl (by repeat (first | exact Pick.here | apply Pick.there)) isP (by repeat (first | exact List.Mem.head _ | apply List.Mem.tail)) rfl rfl (by show (2 * (G.length + 1) + 768) * 16 ≤ _; omega)) ?_
                  rintro _ _ ⟨pn, dn, rfl, rfl⟩
                  refine KO.q rfl (q_assign rfl) ?_
                  refine KO.done ?_
                  refine K.inBlock ?_
                  refine K.region ?_
                  refine KO.q rfl (q_move rfl) ?_
                  refine KO.q rfl (q_add rfl rfl (by first | omega | (simp; omega)) (by first | omega | (simp; omega))) ?_
                  refine KO.q rfl (q_assign rfl) ?_
                  refine KO.done ?_
                  exact K.weak (E' := [(11, .int .i64 ((i + 1 : Nat) : Int)), (10, .slice pn ((List.range (i + 1)).map (e1 N)).length dn), (0, .int .i64 N), (1, .int .i64 a), (2, .int .i64 v), (3, .slice q ms.length cap)]) (by rw [hsu]; exact (by repeat (first | exact Env.sub_nil _ | refine Env.sub_cons rfl ?_))) (fun w h => by rw [hsu]; exact h.fitD) (ih ⟨(i + 1, pn, dn), by show i + 1 ≤ _; omega⟩ (by show N - (i + 1) < N - i; omega))
                · obtain rfl : i = N := by omega
                  clear ih
                  refine K.exit rfl ?_
                  refine K.seq <| K.seq ?_
                  refine K.region ?_
                  refine KO.q rfl (q_assign rfl) ?_
                  refine KO.done ?_
                  refine K.block ?_
                  refine K.rounds2 (ι := { s : Nat × Option Addr × Nat // s.1 ≤ ms.length }) (fun s => [(12, .int .i64 s.1.1), (10, .slice s.1.2.1 (G ++ (List.range s.1.1).map (e2 i ms)).length s.1.2.2), (0, .int .i64 i), (1, .int .i64 a), (2, .int .i64 v), (3, .slice q ms.length cap)]) (fun s => [RowO Kd.p2 39 s.1.2.1 s.1.2.2 (G ++ (List.range s.1.1).map (e2 i ms)), RowF (Kd.int .i64) q ms] ++ L) (fun s => ms.length - s.1.1) ⟨(0, po, co), Nat.zero_le _⟩ (by rw [List.range_zero, List.map_nil, List.append_nil]; exact (by repeat (first | exact Env.sub_nil _ | refine Env.sub_cons rfl ?_))) (fun w h => by rw [List.range_zero, List.map_nil, List.append_nil]; exact h.fitD) (fun s ih => ?_)
                  obtain ⟨⟨j, po, co⟩, hj⟩ := s
                  dsimp only at hj ⊢
                  obtain ⟨H, hH⟩ : ∃ H, H = G ++ (List.range j).map (e2 i ms) := ⟨_, rfl⟩
                  have hHl : H.length = i + j := by rw [hH, List.length_append, hGl, List.length_map, List.length_range]
                  rw [← hH]
                  refine K.seq <| K.seq ?_
                  refine K.region ?_
                  refine KO.q rfl (q_move rfl) ?_
                  refine KO.q rfl (q_move rfl) ?_
                  refine KO.q rfl (q_len Try.underlying36 rfl) ?_
                  refine KO.q rfl (q_lt rfl rfl) ?_
                  refine KO.done ?_
                  refine K.dcond (s := 69) rfl (fun g69 => ?_) (fun g69 => ?_)
                  · obtain ⟨x, hx⟩ : ∃ x, ms[j]? = some x := ⟨_, List.getElem?_eq_getElem (by omega)⟩
                    have hgd : ms.getD j 0 = x := by rw [List.getD_eq_getElem?_getD, hx]; rfl
                    have he2 : e2 i ms j = ⟨100 + (j : Int), ((mkN 1023 x % i : Nat) : Int)⟩ := by unfold e2; rw [hgd]
                    have hsu : G ++ (List.range (j + 1)).map (e2 i ms) = H ++ [e2 i ms j] := by rw [map_range_succ, ← List.append_assoc, ← hH]
                    refine K.skip <| K.seq <| K.block ?_
                    refine K.region ?_
                    refine KO.q rfl (q_move rfl) ?_
                    refine KO.q rfl (q_move rfl) ?_
                    refine KO.q rfl (q_add rfl rfl (by first | omega | (simp; omega)) (by first | omega | (simp; omega))) ?_
                    refine KO.q rfl (q_move rfl) ?_
                    refine KO.q rfl (q_move rfl) ?_
                    refine KO.q rfl (q_ix (xs := ms) j se_36 rfl rfl rfl isF (by repeat (first | exact List.Mem.head _ | apply List.Mem.tail)) rfl (by omega)) ?_
                    refine KO.q rfl (q_ldE (xs := ms) (el := x) ck_3 rfl isF (by repeat (first | exact List.Mem.head _ | apply List.Mem.tail)) hx rfl) ?_
                    refine KO.q rfl (q_mask 1023 (by decide) rfl rfl) ?_
                    refine KO.q rfl (q_move rfl) ?_
                    refine KO.q rfl (q_remN (a := mkN 1023 x) rfl rfl (by omega)) ?_
                    refine KO.q rfl (q_as (q_buildA ar_p2 zo_39 rfl (by repeat (first | exact Fill.nil | (apply Fill.cons; rfl; rfl; rfl) | exact SetN.nil | apply SetN.cons | exact SetAt.here | apply SetAt.there))) (show _ = P2.cells (e2 i ms j) by rw [he2]; rfl)) ?_
                    refine KO.loud rfl (l_slice1 sz_32_1 rfl rfl ⟨rfl, rfl, rfl⟩) ?_
                    rintro _ _ ⟨b83, rfl, rfl⟩
                    refine KO.loud rfl (l_append Kd.p2 (ys := [e2 i ms j]) se_32 Try.underlying32 ⟨_, ze_39, rfl⟩ (by decide) rfl rfl (by repeat (first | exact Pick.here | apply Pick.there)) isP (by repeat (first | exact List.Mem.head _ | apply List.Mem.tail)) rfl rfl (by show (2 * (H.length + 1) + 768) * 16 ≤ _; omega)) ?_
                    rintro _ _ ⟨pn, dn, rfl, rfl⟩
                    refine KO.q rfl (q_assign rfl) ?_
                    refine KO.done ?_
                    refine K.inBlock ?_
                    refine K.region ?_
                    refine KO.q rfl (q_move rfl) ?_
                    refine KO.q rfl (q_add rfl rfl (by first | omega | (simp; omega)) (by first | omega | (simp; omega))) ?_
                    refine KO.q rfl (q_assign rfl) ?_
                    refine KO.done ?_
                    exact K.weak (E' := [(12, .int .i64 ((j + 1 : Nat) : Int)), (10, .slice pn (G ++ (List.range (j + 1)).map (e2 i ms)).length dn), (0, .int .i64 i), (1, .int .i64 a), (2, .int .i64 v), (3, .slice q ms.length cap)]) (by rw [hsu]; exact (by repeat (first | exact Env.sub_nil _ | refine Env.sub_cons rfl ?_))) (fun w h => by rw [hsu]; exact h.fitD) (ih ⟨(j + 1, pn, dn), by show j + 1 ≤ _; omega⟩ (by show ms.length - (j + 1) < ms.length - j; omega))
                  · obtain rfl : j = ms.length := by omega
                    clear ih
                    have hHR : H = lR i ms := by rw [hH, hG]; rfl
                    clear hH
                    subst hHR
                    have hb := lR_b (n := i) (ms := ms) (by omega)
                    have hall := ringE_all (n := i) (l := lR i ms) (fun z hz => lR_in hz)
                    refine K.fact (fun w h => rowO_cap (e := 39) (k := Kd.p2) (p := po) (cap := co) (xs := lR i ms) (by repeat (first | exact List.Mem.head _ | apply List.Mem.tail)) w h) (fun hc3 => ?_)
                    refine K.exit rfl ?_
                    refine K.seq ?_
                    refine K.region ?_
                    refine KO.q rfl (q_move rfl) ?_
                    refine KO.q rfl (q_move rfl) ?_
                    refine KO.loud rfl (OpL.callD rfl (h := wt_Ring (RowO Kd.p2 39 po co (lR i ms)) po co (lR i ms) v isO (by omega))) ?_
                    rintro _ _ ⟨_, ⟨R, pr, cr, rfl, hR, rfl⟩, rfl⟩
                    obtain rfl := ring_all hR (by omega) hall hb; have hul := upto_len i
                    refine KO.q rfl (q_assign rfl) ?_
                    refine KO.done ?_
                    refine K.seq ?_
                    refine K.region ?_
                    refine KO.q rfl (q_move rfl) ?_
                    refine KO.q rfl (q_move rfl) ?_
                    refine KO.loud rfl (OpL.callD rfl (h := wt_Victim (RowO Kd.p2 39 po co (lR i ms)) po co (lR i ms) v isO (by omega))) ?_
                    rintro _ _ ⟨_, ⟨R2, rfl, hR2, rfl⟩, rfl⟩
                    obtain rfl := ring_all hR2 (by omega) hall hb; rw [vicR_upto (n := i) (by omega), isR_upto (n := i) (by omega)]
                    refine KO.q rfl (q_move rfl) ?_
                    refine KO.q rfl (q_extract rfl rfl) ?_
                    refine KO.q rfl (q_extract rfl rfl) ?_
                    refine KO.q rfl (q_assign rfl) ?_
                    refine KO.q rfl (q_assign rfl) ?_
                    refine KO.done ?_
                    refine K.seq <| K.seq ?_
                    refine K.region ?_
                    refine KO.q rfl (q_move rfl) ?_
                    refine KO.q rfl (q_len Try.underlying36 rfl) ?_
                    refine KO.q rfl (q_move rfl) ?_
                    refine KO.q rfl (q_neF rfl rfl (by rw [hul])) ?_
                    refine KO.q rfl (q_move rfl) ?_
                    refine KO.q rfl (q_move rfl) ?_
                    refine KO.q rfl (q_move rfl) ?_
                    refine KO.q rfl (q_sub rfl rfl (by first | omega | (simp; omega)) (by first | omega | (simp; omega))) ?_
                    refine KO.q rfl (q_neF rfl rfl (rfl)) ?_
                    refine KO.q rfl (q_pickF rfl rfl) ?_
                    refine KO.q rfl (q_move rfl) ?_
                    refine KO.q rfl (q_move rfl) ?_
                    refine KO.q rfl (q_not rfl) ?_
                    refine KO.q rfl (q_pickF rfl rfl) ?_
                    refine KO.done ?_
                    refine K.no rfl ?_
                    refine K.skip <| K.seq <| K.seq ?_
                    refine K.region ?_
                    refine KO.q rfl (q_assign rfl) ?_
                    refine KO.done ?_
                    refine K.block ?_
                    refine K.rounds2 (ι := { s : Nat // s ≤ i }) (fun s => [(16, .int .i64 s.1), (13, .slice pr (upto i).length cr), (10, .slice po (lR i ms).length co), (0, .int .i64 i), (1, .int .i64 a), (2, .int .i64 v)]) (fun s => [RowO (Kd.int .i64) 3 pr cr (upto i), RowO Kd.p2 39 po co (lR i ms)] ++ L) (fun s => i - s.1) ⟨0, Nat.zero_le _⟩ (by repeat (first | exact Env.sub_nil _ | refine Env.sub_cons rfl ?_)) (fun w h => h.fitD) (fun s ih => ?_)
                    obtain ⟨j, hj⟩ := s
                    dsimp only at hj ⊢
                    refine K.seq <| K.seq ?_
                    refine K.region ?_
                    refine KO.q rfl (q_move rfl) ?_
                    refine KO.q rfl (q_move rfl) ?_
                    refine KO.q rfl (q_lt rfl rfl) ?_
                    refine KO.done ?_
                    refine K.dcond (s := 110) rfl (fun g110 => ?_) (fun g110 => ?_)
                    · have hget := upto_get (n := i) (i := j) (by omega)
                      refine K.skip <| K.seq <| K.block <| K.seq ?_
                      refine K.region ?_
                      refine KO.q rfl (q_move rfl) ?_
                      refine KO.q rfl (q_move rfl) ?_
                      refine KO.q rfl (q_ix (xs := upto i) j se_36 rfl rfl rfl isO (by repeat (first | exact List.Mem.head _ | apply List.Mem.tail)) rfl (by omega)) ?_
                      refine KO.q rfl (q_ldE (xs := upto i) (el := (j : Int)) ck_3 rfl isO (by repeat (first | exact List.Mem.head _ | apply List.Mem.tail)) hget rfl) ?_
                      refine KO.q rfl (q_move rfl) ?_
                      refine KO.q rfl (q_neF rfl rfl (rfl)) ?_
                      refine KO.done ?_
                      refine K.no rfl ?_
                      refine K.skip <| K.inBlock ?_
                      refine K.region ?_
                      refine KO.q rfl (q_move rfl) ?_
                      refine KO.q rfl (q_add rfl rfl (by first | omega | (simp; omega)) (by first | omega | (simp; omega))) ?_
                      refine KO.q rfl (q_assign rfl) ?_
                      refine KO.done ?_
                      exact K.weak (by repeat (first | exact Env.sub_nil _ | refine Env.sub_cons rfl ?_)) (fun w h => h.fitD) (ih ⟨j + 1, by omega⟩ (by show i - (j + 1) < i - j; omega))
                    · clear ih
                      have hLl := lR_len i ms
                      have hcut := lR_cut (n := i) (a := a) (ms := ms) (by omega) (by omega)
                      refine K.st (fun w h => rowO_freeze (k := Kd.p2) (xs := lR i ms) (h.pick (by repeat (first | exact Pick.here | apply Pick.there)))) ?_
                      refine K.st (fun w h => rowF_take a (m := List.Mem.head _) h) ?_
                      refine K.st (fun w h => rowF_cut (k := Kd.p2) (cap := co) (a + 1) hc3 (List.Mem.tail _ (List.Mem.head _)) h) ?_
                      have htl : ((lR i ms).take a).length = a := by rw [List.length_take]; omega
                      have hdl : ((lR i ms).drop (a + 1)).length = (lR i ms).length - (a + 1) := List.length_drop
                      refine K.exit rfl ?_
                      refine K.seq ?_
                      refine K.draw [] mixed ?_
                      refine D.q 0 rfl (by kernel_rfl) (by kernel_rfl) (q_move rfl) (fun _ h => h.nil) ?_
                      refine D.q 1 rfl (by kernel_rfl) (by kernel_rfl) (q_move rfl) (fun _ h => h.nil) ?_
                      refine D.q 2 rfl (by kernel_rfl) (by kernel_rfl) (q_move rfl) (fun _ h => h.nil) ?_
                      refine D.q 3 rfl (by kernel_rfl) (by kernel_rfl) (q_cut3N (h := a) (m := a) se_32 rfl rfl rfl (Nat.le_refl _) (by omega)) (fun _ h => h.nil) ?_
                      refine D.q 4 rfl (by kernel_rfl) (by kernel_rfl) (q_move rfl) (fun _ h => h.nil) ?_
                      refine D.q 5 rfl (by kernel_rfl) (by kernel_rfl) (q_move rfl) (fun _ h => h.nil) ?_
                      refine D.q 6 rfl (by kernel_rfl) (by kernel_rfl) (q_add rfl rfl (by first | omega | (simp; omega)) (by first | omega | (simp; omega))) (fun _ h => h.nil) ?_
                      refine D.q 7 rfl (by kernel_rfl) (by kernel_rfl) (q_cutL se_32 rfl rfl (by omega) (by omega) hc3) (fun _ h => h.nil) ?_
                      refine D.all (rs := [8]) (by kernel_rfl) rfl (DAll.cons rfl (by kernel_rfl) (l_appendF Kd.p2 (A := RowF Kd.p2 po ((lR i ms).take a)) (B := RowF Kd.p2 (cutAddr po co (a + 1) 2) ((lR i ms).drop (a + 1))) se_32 Try.underlying32 ⟨_, ze_39, rfl⟩ (by decide) rfl rfl isF (by repeat (first | exact List.Mem.head _ | apply List.Mem.tail)) isF (by repeat (first | exact List.Mem.head _ | apply List.Mem.tail)) htl.symm hdl.symm (fun w h => rowF_dup (by repeat (first | exact List.Mem.head _ | apply List.Mem.tail)) h) (by rw [htl, hdl]; show (2 * (a + ((lR i ms).length - (a + 1))) + 768) * 16 ≤ _; omega)) (.inr (fun _ _ _ _ h => h.nil)) rfl ?_ DAll.nil)
                      rintro _ _ ⟨pz, cz, rfl, rfl⟩
                      refine D.q 9 rfl (by kernel_rfl) (by kernel_rfl) (q_assign rfl) (fun _ h => h.nil) ?_
                      refine D.done (by kernel_rfl) ?_
                      refine K.seq ?_
                      obtain ⟨Z, hZ⟩ : ∃ Z, Z = (lR i ms).take a ++ (lR i ms).drop (a + 1) := ⟨_, rfl⟩
                      have hZl : Z.length ≤ 100 := by rw [hZ, List.length_append, htl, hdl]; omega
                      rw [← hZ] at hcut ⊢
                      refine K.region ?_
                      refine KO.q rfl (q_move rfl) ?_
                      refine KO.q rfl (q_move rfl) ?_
                      refine KO.loud rfl (OpL.callD rfl (h := wt_Ring (RowF Kd.p2 pz Z) pz cz Z v isF (by omega))) ?_
                      rintro _ _ ⟨_, ⟨R3, p3, c3, rfl, hR3, rfl⟩, rfl⟩
                      obtain rfl := ring_none hcut hR3
                      refine KO.q rfl (q_len Try.underlying36 rfl) ?_
                      refine KO.q rfl (q_eqT rfl rfl (rfl)) ?_
                      refine KO.q rfl (q_move rfl) ?_
                      refine KO.q rfl (q_move rfl) ?_
                      refine KO.loud rfl (OpL.callD rfl (h := wt_Ring (RowF Kd.p2 pz Z) pz cz Z 100 isF (by omega))) ?_
                      rintro _ _ ⟨_, ⟨R4, p4, c4, rfl, hR4, rfl⟩, rfl⟩
                      obtain rfl := ring_none hcut hR4
                      refine KO.q rfl (q_len Try.underlying36 rfl) ?_
                      refine KO.q rfl (q_eqT rfl rfl (rfl)) ?_
                      refine KO.q rfl (q_pickT rfl rfl) ?_
                      refine KO.q rfl (q_assign rfl) ?_
                      refine KO.done ?_
                      refine K.ret (fn := Try.f5) Try.func5 (fun a w hk hs => res1 Try.results5 hk rfl) (fun w hs => ?_)
                      exact ⟨_, [], rfl, ⟨rfl, rfl⟩, hs.fitD⟩
end Go.Proofs.Ytfpkeanimkgpaaa.L
