/- The law WaitsChain, walked. -/
import Derived.Test.YtfpkeanimkgpaaaW7
namespace Go.Proofs.Ytfpkeanimkgpaaa.L
open Go Go.Proofs
attribute [local irreducible] pv fv pt fz RowF RowO rowP old pure_ elA
set_option maxRecDepth 100000
set_option linter.unusedSimpArgs false
set_option linter.unusedVariables false

def ec (i : Nat) : P2 := ⟨(i : Int), ((i + 1 : Nat) : Int)⟩
/-- The chain of n. -/
def lC (n : Nat) : List P2 := (List.range (n - 1)).map ec
/-- The chain closed, a second one fastened to its head, of m. -/
def lD (n m : Nat) : List P2 := lC n ++ [⟨((n - 1 : Nat) : Int), 0⟩, ⟨0, (n : Int)⟩, ⟨((n + m - 2 : Nat) : Int), 0⟩] ++ (List.range (m - 2)).map fun j => ec (n + j)
theorem lC_len (n : Nat) : (lC n).length = n - 1 := by unfold lC; rw [List.length_map, List.length_range]
theorem lC_rank (n : Nat) : ∀ e ∈ lC n, e.a < e.b := fun e he => by
  obtain ⟨i, _, rfl⟩ := List.mem_map.1 he
  show (i : Int) < ((i + 1 : Nat) : Int)
  omega
theorem lD_b {n m : Nat} (hn : 2 ≤ n) (hm : 2 ≤ m) : ∀ e ∈ lD n m, 0 ≤ e.b ∧ e.b < ((n + m - 1 : Nat) : Int) := fun e he => by
  unfold lD at he
  rcases List.mem_append.1 he with h | h
  · rcases List.mem_append.1 h with h | h
    · obtain ⟨i, hi, rfl⟩ := List.mem_map.1 h
      have := List.mem_range.1 hi
      show 0 ≤ ((i + 1 : Nat) : Int) ∧ ((i + 1 : Nat) : Int) < _
      omega
    · simp only [List.mem_cons, List.not_mem_nil, or_false] at h
      rcases h with rfl | rfl | rfl
      · show (0 : Int) ≤ 0 ∧ (0 : Int) < _; omega
      · show (0 : Int) ≤ (n : Int) ∧ (n : Int) < _; omega
      · show (0 : Int) ≤ 0 ∧ (0 : Int) < _; omega
  · obtain ⟨j, hj, rfl⟩ := List.mem_map.1 h
    have := List.mem_range.1 hj
    show 0 ≤ ((n + j + 1 : Nat) : Int) ∧ ((n + j + 1 : Nat) : Int) < _
    omega
theorem lD_all {n m : Nat} (hn : 2 ≤ n) (hm : 2 ≤ m) : ∀ x y : Int, 0 ≤ x → x < ((n + m - 1 : Nat) : Int) → 0 ≤ y → y < ((n + m - 1 : Nat) : Int) → Reach (adjF (lD n m)) x y := by
  have c1 : ∀ i : Nat, 0 ≤ i → i < n - 1 → (⟨(i : Int), ((i + 1 : Nat) : Int)⟩ : P2) ∈ lD n m := fun i _ hi =>
    List.mem_append.2 (.inl (List.mem_append.2 (.inl (List.mem_map.2 ⟨i, List.mem_range.2 hi, rfl⟩))))
  have c2 : ∀ i : Nat, n ≤ i → i < n + m - 2 → (⟨(i : Int), ((i + 1 : Nat) : Int)⟩ : P2) ∈ lD n m := fun i h1 hi =>
    List.mem_append.2 (.inr (List.mem_map.2 ⟨i - n, List.mem_range.2 (by omega), by show ec (n + (i - n)) = ec i; rw [show n + (i - n) = i by omega]⟩))
  have k1 : (0 : Int) ∈ adjF (lD n m) ((n - 1 : Nat) : Int) := adjF_mem.2 (List.mem_append.2 (.inl (List.mem_append.2 (.inr (List.mem_cons_self)))))
  have k2 : (n : Int) ∈ adjF (lD n m) 0 := adjF_mem.2 (List.mem_append.2 (.inl (List.mem_append.2 (.inr (List.mem_cons_of_mem _ List.mem_cons_self)))))
  have k3 : (0 : Int) ∈ adjF (lD n m) ((n + m - 2 : Nat) : Int) := adjF_mem.2 (List.mem_append.2 (.inl (List.mem_append.2 (.inr (List.mem_cons_of_mem _ (List.mem_cons_of_mem _ List.mem_cons_self))))))
  have toZ : ∀ a : Nat, a < n + m - 1 → Reach (adjF (lD n m)) (a : Int) 0 := fun a ha => by
    by_cases h : a < n
    · by_cases h2 : a = n - 1
      · rw [h2]; exact .one k1
      · exact .more (reach_up (a := a) (b := n - 1) (fun i h3 h4 => c1 i (by omega) h4) (j := n - 1) (by omega) (Nat.le_refl _)) k1
    · by_cases h2 : a = n + m - 2
      · rw [h2]; exact .one k3
      · exact .more (reach_up (a := a) (b := n + m - 2) (fun i h3 h4 => c2 i (by omega) h4) (j := n + m - 2) (by omega) (Nat.le_refl _)) k3
  have ofZ : ∀ b : Nat, b < n + m - 1 → b ≠ 0 → Reach (adjF (lD n m)) 0 (b : Int) := fun b hb h0 => by
    by_cases h : b < n
    · exact reach_up (a := 0) (b := n - 1) (fun i h3 h4 => c1 i h3 h4) (j := b) (by omega) (by omega)
    · by_cases h2 : b = n
      · rw [h2]; exact .one k2
      · exact (Reach.one k2).trans (reach_up (a := n) (b := n + m - 2) (fun i h3 h4 => c2 i h3 h4) (j := b) (by omega) (by omega))
  intro x y hx0 hx1 hy0 hy1
  obtain ⟨a, rfl⟩ : ∃ a : Nat, x = a := ⟨x.toNat, by omega⟩
  obtain ⟨b, rfl⟩ : ∃ b : Nat, y = b := ⟨y.toNat, by omega⟩
  have h1 := toZ a (by omega)
  by_cases hb : b = 0
  · rw [hb]; exact h1
  · exact h1.trans (ofZ b (by omega) hb)
theorem q_asI {X : Fx} {o : Oper} {E : Env} {L : List HP} {k : IntKind} {a b : Int} (h : OpQ X o E L (.int k a)) (e : a = b) : OpQ X o E L (.int k b) := e ▸ h
set_option maxHeartbeats 6400000 in
theorem law_WaitsChain (n m who : Int) (hw : -9223372036854775808 ≤ who ∧ who ≤ 9223372036854775807) : Fn Try.prog 6 [.int .i64 n, .int .i64 m, .int .i64 who].toArray [] (fun r post => r = .bool true ∧ post = []) := by
  refine Fn.enter (N := 127) Try.func6 rfl Try.ntmps6 (by kernel_rfl) rfl (fun ρ L => ?_)
  refine K.seq ?_
  refine K.region ?_
  refine KO.q rfl (q_assign rfl) ?_
  refine KO.done ?_
  refine K.seq ?_
  refine K.region ?_
  refine KO.loud rfl (OpL.callD rfl (h := l12_alive)) ?_
  rintro _ _ ⟨_, ⟨rfl, rfl⟩, rfl⟩
  refine KO.q rfl (q_assign rfl) ?_
  refine KO.done ?_
  refine K.seq <| K.seq ?_
  refine K.region ?_
  refine KO.q rfl (q_move rfl) ?_
  refine KO.q rfl (q_not rfl) ?_
  refine KO.q rfl (q_move rfl) ?_
  refine KO.q rfl (q_move rfl) ?_
  refine KO.q rfl (q_lt rfl rfl) ?_
  refine KO.q rfl (q_pickF rfl rfl) ?_
  refine KO.q rfl (q_move rfl) ?_
  refine KO.dsplit 21 rfl (fun g21 => ?_) (fun g21 => ?_)
  · refine KO.skip rfl ?_
    refine KO.skip rfl ?_
    refine KO.q rfl (q_pickT rfl rfl) ?_
    refine KO.q rfl (q_move rfl) ?_
    refine KO.skip rfl ?_
    refine KO.skip rfl ?_
    refine KO.q rfl (q_pickT rfl rfl) ?_
    refine KO.q rfl (q_move rfl) ?_
    refine KO.skip rfl ?_
    refine KO.skip rfl ?_
    refine KO.q rfl (q_pickT rfl rfl) ?_
    refine KO.q rfl (q_move rfl) ?_
    refine KO.skip rfl ?_
    refine KO.skip rfl ?_
    refine KO.q rfl (q_pickT rfl rfl) ?_
    refine KO.done ?_
    refine K.yes rfl ?_
    refine K.seq ?_
    refine K.region ?_
    refine KO.q rfl (q_move rfl) ?_
    refine KO.q rfl (q_assign rfl) ?_
    refine KO.done ?_
    refine K.ret (fn := Try.f6) Try.func6 (fun a w hk hs => res1 Try.results6 hk rfl) (fun w hs => ?_)
    exact ⟨_, [], rfl, ⟨rfl, rfl⟩, hs.fitD⟩
  · refine KO.q rfl (q_move rfl) ?_
    refine KO.q rfl (q_gt rfl rfl) ?_
    refine KO.q rfl (q_pickF rfl rfl) ?_
    refine KO.q rfl (q_move rfl) ?_
    refine KO.dsplit 25 rfl (fun g25 => ?_) (fun g25 => ?_)
    · refine KO.skip rfl ?_
      refine KO.skip rfl ?_
      refine KO.q rfl (q_pickT rfl rfl) ?_
      refine KO.q rfl (q_move rfl) ?_
      refine KO.skip rfl ?_
      refine KO.skip rfl ?_
      refine KO.q rfl (q_pickT rfl rfl) ?_
      refine KO.q rfl (q_move rfl) ?_
      refine KO.skip rfl ?_
      refine KO.skip rfl ?_
      refine KO.q rfl (q_pickT rfl rfl) ?_
      refine KO.done ?_
      refine K.yes rfl ?_
      refine K.seq ?_
      refine K.region ?_
      refine KO.q rfl (q_move rfl) ?_
      refine KO.q rfl (q_assign rfl) ?_
      refine KO.done ?_
      refine K.ret (fn := Try.f6) Try.func6 (fun a w hk hs => res1 Try.results6 hk rfl) (fun w hs => ?_)
      exact ⟨_, [], rfl, ⟨rfl, rfl⟩, hs.fitD⟩
    · refine KO.q rfl (q_move rfl) ?_
      refine KO.q rfl (q_lt rfl rfl) ?_
      refine KO.q rfl (q_pickF rfl rfl) ?_
      refine KO.q rfl (q_move rfl) ?_
      refine KO.dsplit 29 rfl (fun g29 => ?_) (fun g29 => ?_)
      · refine KO.skip rfl ?_
        refine KO.skip rfl ?_
        refine KO.q rfl (q_pickT rfl rfl) ?_
        refine KO.q rfl (q_move rfl) ?_
        refine KO.skip rfl ?_
        refine KO.skip rfl ?_
        refine KO.q rfl (q_pickT rfl rfl) ?_
        refine KO.done ?_
        refine K.yes rfl ?_
        refine K.seq ?_
        refine K.region ?_
        refine KO.q rfl (q_move rfl) ?_
        refine KO.q rfl (q_assign rfl) ?_
        refine KO.done ?_
        refine K.ret (fn := Try.f6) Try.func6 (fun a w hk hs => res1 Try.results6 hk rfl) (fun w hs => ?_)
        exact ⟨_, [], rfl, ⟨rfl, rfl⟩, hs.fitD⟩
      · refine KO.q rfl (q_move rfl) ?_
        refine KO.q rfl (q_gt rfl rfl) ?_
        refine KO.q rfl (q_pickF rfl rfl) ?_
        refine KO.q rfl (q_move rfl) ?_
        refine KO.dsplit 33 rfl (fun g33 => ?_) (fun g33 => ?_)
        · refine KO.skip rfl ?_
          refine KO.skip rfl ?_
          refine KO.q rfl (q_pickT rfl rfl) ?_
          refine KO.done ?_
          refine K.yes rfl ?_
          refine K.seq ?_
          refine K.region ?_
          refine KO.q rfl (q_move rfl) ?_
          refine KO.q rfl (q_assign rfl) ?_
          refine KO.done ?_
          refine K.ret (fn := Try.f6) Try.func6 (fun a w hk hs => res1 Try.results6 hk rfl) (fun w hs => ?_)
          exact ⟨_, [], rfl, ⟨rfl, rfl⟩, hs.fitD⟩
        · refine KO.q rfl (q_move rfl) ?_
          refine KO.q rfl (q_lt rfl rfl) ?_
          refine KO.q rfl (q_pickF rfl rfl) ?_
          refine KO.done ?_
          refine K.dcond (s := 36) rfl (fun g36 => ?_) (fun g36 => ?_)
          · refine K.seq ?_
            refine K.region ?_
            refine KO.q rfl (q_move rfl) ?_
            refine KO.q rfl (q_assign rfl) ?_
            refine KO.done ?_
            refine K.ret (fn := Try.f6) Try.func6 (fun a w hk hs => res1 Try.results6 hk rfl) (fun w hs => ?_)
            exact ⟨_, [], rfl, ⟨rfl, rfl⟩, hs.fitD⟩
          · refine K.skip <| K.seq ?_
            obtain ⟨N, rfl⟩ : ∃ N : Nat, n = N := ⟨n.toNat, by omega⟩
            obtain ⟨M, rfl⟩ : ∃ M : Nat, m = M := ⟨m.toNat, by omega⟩
            obtain ⟨v, rfl⟩ : ∃ v : Nat, who = v := ⟨who.toNat, by omega⟩
            rename_i L
            refine K.region ?_
            refine KO.q rfl (q_assign rfl) ?_
            refine KO.done ?_
            refine K.seq <| K.seq ?_
            refine K.region ?_
            refine KO.q rfl (q_assign rfl) ?_
            refine KO.done ?_
            refine K.st (fun w h => rowO_nil (k := Kd.p2) 39 h) ?_
            refine K.block ?_
            refine K.rounds2 (ι := { s : Nat × Option Addr × Nat // s.1 ≤ N - 1 }) (fun s => [(9, .int .i64 s.1.1), (8, .slice s.1.2.1 ((List.range s.1.1).map ec).length s.1.2.2), (0, .int .i64 N), (1, .int .i64 M), (2, .int .i64 v)]) (fun s => [RowO Kd.p2 39 s.1.2.1 s.1.2.2 ((List.range s.1.1).map ec)] ++ L) (fun s => N - s.1.1) ⟨(0, none, 0), Nat.zero_le _⟩ (by repeat (first | exact Env.sub_nil _ | refine Env.sub_cons rfl ?_)) (fun w h => h.fitD) (fun s ih => ?_)
            obtain ⟨⟨i, po, co⟩, hi⟩ := s
            dsimp only at hi ⊢
            obtain ⟨G, hG⟩ : ∃ G, G = (List.range i).map ec := ⟨_, rfl⟩
            have hGl : G.length = i := by rw [hG, List.length_map, List.length_range]
            rw [← hG]
            refine K.seq <| K.seq ?_
            refine K.region ?_
            refine KO.q rfl (q_move rfl) ?_
            refine KO.q rfl (q_add rfl rfl (by first | omega | (simp; omega)) (by first | omega | (simp; omega))) ?_
            refine KO.q rfl (q_move rfl) ?_
            refine KO.q rfl (q_lt rfl rfl) ?_
            refine KO.done ?_
            refine K.dcond (s := 41) rfl (fun g41 => ?_) (fun g41 => ?_)
            · have hsu : (List.range (i + 1)).map ec = G ++ [ec i] := by rw [map_range_succ, ← hG]
              refine K.skip <| K.seq <| K.block ?_
              refine K.region ?_
              refine KO.q rfl (q_move rfl) ?_
              refine KO.q rfl (q_move rfl) ?_
              refine KO.q rfl (q_move rfl) ?_
              refine KO.q rfl (q_add rfl rfl (by first | omega | (simp; omega)) (by first | omega | (simp; omega))) ?_
              refine KO.q rfl (q_as (q_buildA ar_p2 zo_39 rfl (by repeat (first | exact Fill.nil | (apply Fill.cons; rfl; rfl; rfl) | exact SetN.nil | apply SetN.cons | exact SetAt.here | apply SetAt.there))) (show _ = P2.cells (ec i) from rfl)) ?_
              refine KO.loud rfl (l_slice1 sz_32_1 rfl rfl ⟨rfl, rfl, rfl⟩) ?_
              rintro _ _ ⟨b49, rfl, rfl⟩
              refine KO.loud rfl (l_append Kd.p2 (ys := [ec i]) se_32 Try.underlying32 ⟨_, ze_39, rfl⟩ (by decide) rfl rfl (by repeat (first | exact Pick.here | apply Pick.there)) isP (by repeat (first | exact List.Mem.head _ | apply List.Mem.tail)) rfl rfl (by show (2 * (G.length + 1) + 768) * 16 ≤ _; omega)) ?_
              rintro _ _ ⟨pn, dn, rfl, rfl⟩
              refine KO.q rfl (q_assign rfl) ?_
              refine KO.done ?_
              refine K.inBlock ?_
              refine K.region ?_
              refine KO.q rfl (q_move rfl) ?_
              refine KO.q rfl (q_add rfl rfl (by first | omega | (simp; omega)) (by first | omega | (simp; omega))) ?_
              refine KO.q rfl (q_assign rfl) ?_
              refine KO.done ?_
              exact K.weak (E' := [(9, .int .i64 ((i + 1 : Nat) : Int)), (8, .slice pn ((List.range (i + 1)).map ec).length dn), (0, .int .i64 N), (1, .int .i64 M), (2, .int .i64 v)]) (by rw [hsu]; exact (by repeat (first | exact Env.sub_nil _ | refine Env.sub_cons rfl ?_))) (fun w h => by rw [hsu]; exact h.fitD) (ih ⟨(i + 1, pn, dn), by show i + 1 ≤ _; omega⟩ (by show N - (i + 1) < N - i; omega))
            · obtain rfl : i = N - 1 := by omega
              clear ih
              have hGC : G = lC N := hG
              clear hG
              subst hGC
              refine K.exit rfl ?_
              refine K.seq <| K.seq ?_
              refine K.region ?_
              refine KO.q rfl (q_assign rfl) ?_
              refine KO.done ?_
              refine K.block ?_
              refine K.rounds2 (ι := { s : Nat // s ≤ N }) (fun s => [(10, .int .i64 s.1), (8, .slice po (lC N).length co), (0, .int .i64 N), (1, .int .i64 M), (2, .int .i64 v)]) (fun s => [RowO Kd.p2 39 po co (lC N)] ++ L) (fun s => N - s.1) ⟨0, Nat.zero_le _⟩ (by repeat (first | exact Env.sub_nil _ | refine Env.sub_cons rfl ?_)) (fun w h => h.fitD) (fun s ih => ?_)
              obtain ⟨i, hi⟩ := s
              dsimp only at hi ⊢
              refine K.seq <| K.seq ?_
              refine K.region ?_
              refine KO.q rfl (q_move rfl) ?_
              refine KO.q rfl (q_move rfl) ?_
              refine KO.q rfl (q_lt rfl rfl) ?_
              refine KO.done ?_
              refine K.dcond (s := 53) rfl (fun g53 => ?_) (fun g53 => ?_)
              · refine K.skip <| K.seq <| K.block <| K.seq ?_
                refine K.region ?_
                refine KO.q rfl (q_move rfl) ?_
                refine KO.q rfl (q_move rfl) ?_
                refine KO.loud rfl (OpL.callD rfl (h := wt_Ring (RowO Kd.p2 39 po co (lC N)) po co (lC N) i isO (by omega))) ?_
                rintro _ _ ⟨_, ⟨R, pr, cr, rfl, hR, rfl⟩, rfl⟩
                obtain rfl := ring_none (rk := fun x => x) (lC_rank N) hR
                refine KO.q rfl (q_len Try.underlying36 rfl) ?_
                refine KO.q rfl (q_neF rfl rfl (rfl)) ?_
                refine KO.done ?_
                refine K.no rfl ?_
                refine K.skip <| K.inBlock ?_
                refine K.region ?_
                refine KO.q rfl (q_move rfl) ?_
                refine KO.q rfl (q_add rfl rfl (by first | omega | (simp; omega)) (by first | omega | (simp; omega))) ?_
                refine KO.q rfl (q_assign rfl) ?_
                refine KO.done ?_
                exact K.weak (by repeat (first | exact Env.sub_nil _ | refine Env.sub_cons rfl ?_)) (fun w h => h.fitD) (ih ⟨i + 1, by omega⟩ (by show N - (i + 1) < N - i; omega))
              · clear ih
                refine K.exit rfl ?_
                refine K.seq ?_
                refine K.region ?_
                refine KO.q rfl (q_move rfl) ?_
                refine KO.q rfl (q_move rfl) ?_
                refine KO.q rfl (q_sub rfl rfl (by first | omega | (simp; omega)) (by first | omega | (simp; omega))) ?_
                refine KO.q rfl (q_as (q_buildA ar_p2 zo_39 rfl (by repeat (first | exact Fill.nil | (apply Fill.cons; rfl; rfl; rfl) | exact SetN.nil | apply SetN.cons | exact SetAt.here | apply SetAt.there))) (show _ = P2.cells ⟨((N - 1 : Nat) : Int), 0⟩ by rw [show ((N - 1 : Nat) : Int) = (N : Int) - 1 by omega]; rfl)) ?_
                refine KO.q rfl (q_move rfl) ?_
                refine KO.q rfl (q_as (q_buildA ar_p2 zo_39 rfl (by repeat (first | exact Fill.nil | (apply Fill.cons; rfl; rfl; rfl) | exact SetN.nil | apply SetN.cons | exact SetAt.here | apply SetAt.there))) (show _ = P2.cells ⟨0, (N : Int)⟩ from rfl)) ?_
                refine KO.q rfl (q_move rfl) ?_
                refine KO.q rfl (q_move rfl) ?_
                refine KO.q rfl (q_add rfl rfl (by first | omega | (simp; omega)) (by first | omega | (simp; omega))) ?_
                refine KO.q rfl (q_sub rfl rfl (by first | omega | (simp; omega)) (by first | omega | (simp; omega))) ?_
                refine KO.q rfl (q_as (q_buildA ar_p2 zo_39 rfl (by repeat (first | exact Fill.nil | (apply Fill.cons; rfl; rfl; rfl) | exact SetN.nil | apply SetN.cons | exact SetAt.here | apply SetAt.there))) (show _ = P2.cells ⟨((N + M - 2 : Nat) : Int), 0⟩ by rw [show ((N + M - 2 : Nat) : Int) = (N : Int) + M - 2 by omega]; rfl)) ?_
                refine KO.loud rfl (l_slice sz_32_3 rfl (by repeat (first | exact Fill.nil | (apply Fill.cons; rfl; rfl; rfl) | exact SetN.nil | apply SetN.cons | exact SetAt.here | apply SetAt.there))) ?_
                rintro _ _ ⟨b72, rfl, rfl⟩
                refine KO.st (fun w h => pv_flat (enc := P2.cells) (hl := p2_sz) (h1 := p2_one) [⟨((N - 1 : Nat) : Int), 0⟩, ⟨0, (N : Int)⟩, ⟨((N + M - 2 : Nat) : Int), 0⟩] rfl h) ?_
                refine KO.loud rfl (l_append Kd.p2 (ys := [⟨((N - 1 : Nat) : Int), 0⟩, ⟨0, (N : Int)⟩, ⟨((N + M - 2 : Nat) : Int), 0⟩]) se_32 Try.underlying32 ⟨_, ze_39, rfl⟩ (by decide) rfl rfl (by repeat (first | exact Pick.here | apply Pick.there)) isF (by repeat (first | exact List.Mem.head _ | apply List.Mem.tail)) rfl rfl (by show (2 * ((lC N).length + 3) + 768) * 16 ≤ _; omega)) ?_
                rintro _ _ ⟨pn, dn, rfl, rfl⟩
                refine KO.q rfl (q_assign rfl) ?_
                refine KO.done ?_
                refine K.seq <| K.seq ?_
                refine K.region ?_
                refine KO.q rfl (q_move rfl) ?_
                refine KO.q rfl (q_assign rfl) ?_
                refine KO.done ?_
                refine K.block ?_
                obtain ⟨K3, hK3⟩ : ∃ K3, K3 = lC N ++ [⟨((N - 1 : Nat) : Int), 0⟩, ⟨0, (N : Int)⟩, ⟨((N + M - 2 : Nat) : Int), 0⟩] := ⟨_, rfl⟩
                have hK3l : K3.length = N - 1 + 3 := by rw [hK3, List.length_append, lC_len]; rfl
                rw [← hK3]
                refine K.rounds2 (ι := { s : Nat × Option Addr × Nat // s.1 ≤ M - 2 }) (fun s => [(11, .int .i64 ((N + s.1.1 : Nat) : Int)), (8, .slice s.1.2.1 (K3 ++ (List.range s.1.1).map fun j => ec (N + j)).length s.1.2.2), (0, .int .i64 N), (1, .int .i64 M), (2, .int .i64 v)]) (fun s => [RowO Kd.p2 39 s.1.2.1 s.1.2.2 (K3 ++ (List.range s.1.1).map fun j => ec (N + j))] ++ L) (fun s => M - s.1.1) ⟨(0, pn, dn), Nat.zero_le _⟩ (by rw [List.range_zero, List.map_nil, List.append_nil]; exact (by repeat (first | exact Env.sub_nil _ | refine Env.sub_cons rfl ?_))) (fun w h => by rw [List.range_zero, List.map_nil, List.append_nil]; exact h.fitD) (fun s ih => ?_)
                obtain ⟨⟨j, po, co⟩, hj⟩ := s
                dsimp only at hj ⊢
                obtain ⟨H, hH⟩ : ∃ H, H = K3 ++ (List.range j).map fun j => ec (N + j) := ⟨_, rfl⟩
                have hHl : H.length = N - 1 + 3 + j := by rw [hH, List.length_append, hK3l, List.length_map, List.length_range]
                rw [← hH]
                refine K.seq <| K.seq ?_
                refine K.region ?_
                refine KO.q rfl (q_move rfl) ?_
                refine KO.q rfl (q_add rfl rfl (by first | omega | (simp; omega)) (by first | omega | (simp; omega))) ?_
                refine KO.q rfl (q_move rfl) ?_
                refine KO.q rfl (q_move rfl) ?_
                refine KO.q rfl (q_add rfl rfl (by first | omega | (simp; omega)) (by first | omega | (simp; omega))) ?_
                refine KO.q rfl (q_sub rfl rfl (by first | omega | (simp; omega)) (by first | omega | (simp; omega))) ?_
                refine KO.q rfl (q_lt rfl rfl) ?_
                refine KO.done ?_
                refine K.dcond (s := 81) rfl (fun g81 => ?_) (fun g81 => ?_)
                · have hsu : K3 ++ (List.range (j + 1)).map (fun j => ec (N + j)) = H ++ [ec (N + j)] := by rw [map_range_succ, ← List.append_assoc, ← hH]
                  refine K.skip <| K.seq <| K.block ?_
                  refine K.region ?_
                  refine KO.q rfl (q_move rfl) ?_
                  refine KO.q rfl (q_move rfl) ?_
                  refine KO.q rfl (q_move rfl) ?_
                  refine KO.q rfl (q_add rfl rfl (by first | omega | (simp; omega)) (by first | omega | (simp; omega))) ?_
                  refine KO.q rfl (q_as (q_buildA ar_p2 zo_39 rfl (by repeat (first | exact Fill.nil | (apply Fill.cons; rfl; rfl; rfl) | exact SetN.nil | apply SetN.cons | exact SetAt.here | apply SetAt.there))) (show _ = P2.cells (ec (N + j)) from rfl)) ?_
                  refine KO.loud rfl (l_slice1 sz_32_1 rfl rfl ⟨rfl, rfl, rfl⟩) ?_
                  rintro _ _ ⟨b89, rfl, rfl⟩
                  refine KO.loud rfl (l_append Kd.p2 (ys := [ec (N + j)]) se_32 Try.underlying32 ⟨_, ze_39, rfl⟩ (by decide) rfl rfl (by repeat (first | exact Pick.here | apply Pick.there)) isP (by repeat (first | exact List.Mem.head _ | apply List.Mem.tail)) rfl rfl (by show (2 * (H.length + 1) + 768) * 16 ≤ _; omega)) ?_
                  rintro _ _ ⟨pw, dw, rfl, rfl⟩
                  refine KO.q rfl (q_assign rfl) ?_
                  refine KO.done ?_
                  refine K.inBlock ?_
                  refine K.region ?_
                  refine KO.q rfl (q_move rfl) ?_
                  refine KO.q rfl (q_add rfl rfl (by first | omega | (simp; omega)) (by first | omega | (simp; omega))) ?_
                  refine KO.q rfl (q_assign rfl) ?_
                  refine KO.done ?_
                  exact K.weak (E' := [(11, .int .i64 ((N + (j + 1) : Nat) : Int)), (8, .slice pw (K3 ++ (List.range (j + 1)).map fun j => ec (N + j)).length dw), (0, .int .i64 N), (1, .int .i64 M), (2, .int .i64 v)]) (by rw [hsu]; exact (by repeat (first | exact Env.sub_nil _ | refine Env.sub_cons rfl ?_))) (fun w h => by rw [hsu]; exact h.fitD) (ih ⟨(j + 1, pw, dw), by show j + 1 ≤ _; omega⟩ (by show M - (j + 1) < M - j; omega))
                · obtain rfl : j = M - 2 := by omega
                  clear ih
                  have hHD : H = lD N M := by rw [hH, hK3]; rfl
                  clear hH
                  subst hHD
                  have hb := lD_b (n := N) (m := M) (by omega) (by omega)
                  have hall := lD_all (n := N) (m := M) (by omega) (by omega)
                  have hvm := Nat.mod_lt v (show 0 < N + M - 1 by omega)
                  have hul := upto_len (N + M - 1)
                  refine K.exit rfl ?_
                  refine K.seq ?_
                  refine K.region ?_
                  refine KO.q rfl (q_move rfl) ?_
                  refine KO.q rfl (q_move rfl) ?_
                  refine KO.q rfl (q_move rfl) ?_
                  refine KO.q rfl (q_move rfl) ?_
                  refine KO.q rfl (q_add rfl rfl (by first | omega | (simp; omega)) (by first | omega | (simp; omega))) ?_
                  refine KO.q rfl (q_asI (q_sub rfl rfl (by omega) (by omega)) (show _ = ((N + M - 1 : Nat) : Int) by omega)) ?_
                  refine KO.q rfl (q_remN rfl rfl (by omega)) ?_
                  refine KO.loud rfl (OpL.callD rfl (h := wt_Victim (RowO Kd.p2 39 po co (lD N M)) po co (lD N M) ((v % (N + M - 1) : Nat) : Int) isO (by omega))) ?_
                  rintro _ _ ⟨_, ⟨R2, rfl, hR2, rfl⟩, rfl⟩
                  obtain rfl := ring_all hR2 (by omega) hall hb; rw [vicR_upto (n := N + M - 1) (by omega), isR_upto (n := N + M - 1) (by omega)]
                  refine KO.q rfl (q_move rfl) ?_
                  refine KO.q rfl (q_extract rfl rfl) ?_
                  refine KO.q rfl (q_extract rfl rfl) ?_
                  refine KO.q rfl (q_assign rfl) ?_
                  refine KO.q rfl (q_assign rfl) ?_
                  refine KO.done ?_
                  refine K.seq ?_
                  refine K.region ?_
                  refine KO.q rfl (q_move rfl) ?_
                  refine KO.q rfl (q_move rfl) ?_
                  refine KO.q rfl (q_move rfl) ?_
                  refine KO.q rfl (q_move rfl) ?_
                  refine KO.q rfl (q_move rfl) ?_
                  refine KO.q rfl (q_add rfl rfl (by first | omega | (simp; omega)) (by first | omega | (simp; omega))) ?_
                  refine KO.q rfl (q_sub rfl rfl (by first | omega | (simp; omega)) (by first | omega | (simp; omega))) ?_
                  refine KO.q rfl (q_eqT rfl rfl (by omega)) ?_
                  refine KO.q rfl (q_pickT rfl rfl) ?_
                  refine KO.q rfl (q_move rfl) ?_
                  refine KO.q rfl (q_move rfl) ?_
                  refine KO.q rfl (q_move rfl) ?_
                  refine KO.q rfl (q_move rfl) ?_
                  refine KO.q rfl (q_move rfl) ?_
                  refine KO.q rfl (q_add rfl rfl (by first | omega | (simp; omega)) (by first | omega | (simp; omega))) ?_
                  refine KO.q rfl (q_asI (q_sub rfl rfl (by omega) (by omega)) (show _ = ((N + M - 1 : Nat) : Int) by omega)) ?_
                  refine KO.q rfl (q_remN rfl rfl (by omega)) ?_
                  refine KO.loud rfl (OpL.callD rfl (h := wt_Ring (RowO Kd.p2 39 po co (lD N M)) po co (lD N M) ((v % (N + M - 1) : Nat) : Int) isO (by omega))) ?_
                  rintro _ _ ⟨_, ⟨R3, p3, c3, rfl, hR3, rfl⟩, rfl⟩
                  obtain rfl := ring_all hR3 (by omega) hall hb
                  refine KO.q rfl (q_len Try.underlying36 rfl) ?_
                  refine KO.q rfl (q_move rfl) ?_
                  refine KO.q rfl (q_move rfl) ?_
                  refine KO.q rfl (q_add rfl rfl (by first | omega | (simp; omega)) (by first | omega | (simp; omega))) ?_
                  refine KO.q rfl (q_sub rfl rfl (by first | omega | (simp; omega)) (by first | omega | (simp; omega))) ?_
                  refine KO.q rfl (q_eqT rfl rfl (by rw [hul]; omega)) ?_
                  refine KO.q rfl (q_pickT rfl rfl) ?_
                  refine KO.q rfl (q_assign rfl) ?_
                  refine KO.done ?_
                  refine K.ret (fn := Try.f6) Try.func6 (fun a w hk hs => res1 Try.results6 hk rfl) (fun w hs => ?_)
                  exact ⟨_, [], rfl, ⟨rfl, rfl⟩, hs.fitD⟩
end Go.Proofs.Ytfpkeanimkgpaaa.L
