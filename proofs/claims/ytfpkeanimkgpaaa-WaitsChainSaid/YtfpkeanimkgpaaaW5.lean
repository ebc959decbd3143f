/- Walks: victims; the document's rings and victims; that the waits' package is alive. -/
import Derived.Test.YtfpkeanimkgpaaaW4
namespace Go.Proofs.Ytfpkeanimkgpaaa.L
open Go Go.Proofs
attribute [local irreducible] pv fv pt fz RowF RowO rowP old pure_ elA
set_option maxRecDepth 100000
set_option linter.unusedSimpArgs false
set_option linter.unusedVariables false

set_option maxHeartbeats 3200000 in
theorem rf_Ring (A : HP) (q : Option Addr) (cap : Nat) (l : List P2) (who : Int) (hA : IsRow A Kd.p2 q l) (hl : l.length ≤ 1000) : Fn Try.prog 25 [.slice q l.length cap, .int .i64 who].toArray [A] (fun r post => ∃ R po co, r = .slice po R.length co ∧ RingOf l who R ∧ post = [RowO (Kd.int .i64) 3 po co R, A]) := by
  have hlen : ∀ {back : Bool} {O : List Int}, O.Pairwise (· < ·) → (∀ x, x ∈ O ↔ Reach (adjF (bkL back l)) who x) → O.length ≤ 1000 := fun {back O} h1 h2 => by
    have := nodup_len (m := (bkL back l).map P2.b) (up_nodup h1) (fun y hy => by
      have h3 := (h2 y).1 hy
      cases h3 with
      | one h3 => exact List.mem_map.2 ⟨_, adjF_mem.1 h3, rfl⟩
      | more _ h3 => exact List.mem_map.2 ⟨_, adjF_mem.1 h3, rfl⟩)
    rw [List.length_map, bkL_len] at this
    omega
  refine Fn.enter (N := 45) Try.func25 rfl Try.ntmps25 (by kernel_rfl) rfl (fun ρ L => ?_)
  refine K.seq ?_
  refine K.region ?_
  refine KO.q rfl (q_assign rfl) ?_
  refine KO.done ?_
  refine K.seq ?_
  refine K.region ?_
  refine KO.q rfl (q_move rfl) ?_
  refine KO.q rfl (q_move rfl) ?_
  refine KO.loud rfl (OpL.callD rfl (h := rf_from A q cap l who false hA hl)) ?_
  rintro _ _ ⟨_, ⟨a, pa, ca, rfl, hra, rfl⟩, rfl⟩
  refine KO.q rfl (q_assign rfl) ?_
  refine KO.done ?_
  refine K.seq ?_
  refine K.region ?_
  refine KO.q rfl (q_move rfl) ?_
  refine KO.q rfl (q_move rfl) ?_
  refine KO.loud rfl (OpL.callD rfl (h := rf_from A q cap l who true hA hl)) ?_
  rintro _ _ ⟨_, ⟨b, pb, cb, rfl, hrb, rfl⟩, rfl⟩
  refine KO.q rfl (q_assign rfl) ?_
  refine KO.done ?_
  refine K.seq ?_
  refine K.region ?_
  refine KO.q rfl (q_assign rfl) ?_
  refine KO.done ?_
  refine K.st (fun w h => rowO_nil (k := Kd.int .i64) 3 h) ?_
  have hla := hlen hra.1 hra.2
  have hlb := hlen hrb.1 hrb.2
  refine K.seq <| K.seq ?_
  refine K.region ?_
  refine KO.q rfl (q_assign rfl) ?_
  refine KO.done ?_
  refine K.block ?_
  refine K.rounds2 (ι := { s : Nat × Option Addr × Nat // s.1 ≤ a.length }) (fun s => [(8, .int .i64 s.1.1), (5, .slice pa a.length ca), (6, .slice pb b.length cb), (7, .slice s.1.2.1 ((a.take s.1.1).filter fun x => decide (x ∈ b)).length s.1.2.2)]) (fun s => [RowO (Kd.int .i64) 3 s.1.2.1 s.1.2.2 ((a.take s.1.1).filter fun x => decide (x ∈ b)), RowO (Kd.int .i64) 3 pa ca a, RowO (Kd.int .i64) 3 pb cb b, A] ++ L) (fun s => a.length - s.1.1) ⟨(0, none, 0), Nat.zero_le _⟩ (by repeat (first | exact Env.sub_nil _ | refine Env.sub_cons rfl ?_)) (fun w h => h.fitD) (fun s ih => ?_)
  obtain ⟨⟨i, po, co⟩, hi⟩ := s
  dsimp only at hi ⊢
  obtain ⟨O, hO⟩ : ∃ O, O = (a.take i).filter fun x => decide (x ∈ b) := ⟨_, rfl⟩
  have hOl : O.length ≤ 1000 := by
    rw [hO]
    have := List.length_filter_le (fun x => decide (x ∈ b)) (a.take i)
    rw [List.length_take] at this
    omega
  rw [← hO]
  refine K.seq <| K.seq ?_
  refine K.region ?_
  refine KO.q rfl (q_move rfl) ?_
  refine KO.q rfl (q_move rfl) ?_
  refine KO.q rfl (q_len Try.underlying36 rfl) ?_
  refine KO.q rfl (q_lt rfl rfl) ?_
  refine KO.done ?_
  refine K.dcond (s := 19) rfl (fun g19 => ?_) (fun g19 => ?_)
  · obtain ⟨x, hx⟩ : ∃ x, a[i]? = some x := ⟨_, List.getElem?_eq_getElem (by omega)⟩
    have hsu := filter_take_succ (fun x => decide (x ∈ b)) hx
    rw [← hO] at hsu
    refine K.skip <| K.seq <| K.block <| K.seq ?_
    refine K.region ?_
    refine KO.q rfl (q_assign rfl) ?_
    refine KO.done ?_
    refine K.block ?_
    refine K.rounds2 (ι := { s : Nat × Option Addr × Nat // s.1 ≤ b.length }) (fun s => [(9, .int .i64 s.1.1), (8, .int .i64 i), (5, .slice pa a.length ca), (6, .slice pb b.length cb), (7, .slice s.1.2.1 (O ++ if x ∈ b.take s.1.1 then [x] else []).length s.1.2.2)]) (fun s => [RowO (Kd.int .i64) 3 s.1.2.1 s.1.2.2 (O ++ if x ∈ b.take s.1.1 then [x] else []), RowO (Kd.int .i64) 3 pa ca a, RowO (Kd.int .i64) 3 pb cb b, A] ++ L) (fun s => b.length - s.1.1) ⟨(0, po, co), Nat.zero_le _⟩ (by rw [List.take_zero, if_neg List.not_mem_nil, List.append_nil]; exact (by repeat (first | exact Env.sub_nil _ | refine Env.sub_cons rfl ?_))) (fun w h => by rw [List.take_zero, if_neg List.not_mem_nil, List.append_nil]; exact h.fitD) (fun s ih2 => ?_)
    obtain ⟨⟨k, po, co⟩, hk⟩ := s
    dsimp only at hk ⊢
    refine K.seq <| K.seq ?_
    refine K.region ?_
    refine KO.q rfl (q_move rfl) ?_
    refine KO.q rfl (q_move rfl) ?_
    refine KO.q rfl (q_len Try.underlying36 rfl) ?_
    refine KO.q rfl (q_lt rfl rfl) ?_
    refine KO.done ?_
    refine K.dcond (s := 25) rfl (fun g25 => ?_) (fun g25 => ?_)
    · obtain ⟨y, hy⟩ : ∃ y, b[k]? = some y := ⟨_, List.getElem?_eq_getElem (by omega)⟩
      have hbt : b.take (k + 1) = b.take k ++ [y] := by rw [List.take_add_one, hy]; rfl
      have hnk : y ∉ b.take k := fun h => by
        have hn := up_nodup hrb.1
        rw [← List.take_append_drop (k + 1) b, hbt, List.append_assoc, List.nodup_append] at hn
        exact hn.2.2 y h y (List.mem_append.2 (.inl (List.mem_singleton.2 rfl))) rfl
      refine K.skip <| K.seq <| K.block <| K.seq ?_
      refine K.drawS [RowO (Kd.int .i64) 3 pa ca a, RowO (Kd.int .i64) 3 pb cb b] (fun _ h => h.subD) mixed ?_
      refine D.q 0 rfl (by kernel_rfl) (by kernel_rfl) (q_move rfl) (fun _ h => h.subD) ?_
      refine D.q 1 rfl (by kernel_rfl) (by kernel_rfl) (q_move rfl) (fun _ h => h.subD) ?_
      refine D.q 2 rfl (by kernel_rfl) (by kernel_rfl) (q_ix (xs := a) i se_36 rfl rfl rfl isO (by repeat (first | exact List.Mem.head _ | apply List.Mem.tail)) rfl (by omega)) (fun _ h => h.subD) ?_
      refine D.q 3 rfl (by kernel_rfl) (by kernel_rfl) (q_ldE (xs := a) (el := x) ck_3 rfl isO (by repeat (first | exact List.Mem.head _ | apply List.Mem.tail)) hx rfl) (fun _ h => h.subD) ?_
      refine D.q 4 rfl (by kernel_rfl) (by kernel_rfl) (q_move rfl) (fun _ h => h.subD) ?_
      refine D.q 5 rfl (by kernel_rfl) (by kernel_rfl) (q_move rfl) (fun _ h => h.subD) ?_
      refine D.q 6 rfl (by kernel_rfl) (by kernel_rfl) (q_ix (xs := b) k se_36 rfl rfl rfl isO (by repeat (first | exact List.Mem.head _ | apply List.Mem.tail)) rfl (by omega)) (fun _ h => h.subD) ?_
      refine D.q 7 rfl (by kernel_rfl) (by kernel_rfl) (q_ldE (xs := b) (el := y) ck_3 rfl isO (by repeat (first | exact List.Mem.head _ | apply List.Mem.tail)) hy rfl) (fun _ h => h.subD) ?_
      refine D.q 8 rfl (by kernel_rfl) (by kernel_rfl) (q_eq rfl rfl) (fun _ h => h.subD) ?_
      refine D.done (by kernel_rfl) ?_
      refine K.dcond (s := 36) rfl (fun g36 => ?_) (fun g36 => ?_)
      · have e1 : (if x ∈ b.take k then [x] else []) = [] := if_neg (g36 ▸ hnk)
        have e2 : (if x ∈ b.take (k + 1) then [x] else []) = [x] := if_pos (by rw [hbt, g36]; exact List.mem_append.2 (.inr (List.mem_singleton.2 rfl)))
        rw [e1, List.append_nil]
        refine K.region ?_
        refine KO.q rfl (q_move rfl) ?_
        refine KO.q rfl (q_move rfl) ?_
        refine KO.q rfl (q_move rfl) ?_
        refine KO.q rfl (q_ix (xs := a) i se_36 rfl rfl rfl isO (by repeat (first | exact List.Mem.head _ | apply List.Mem.tail)) rfl (by omega)) ?_
        refine KO.q rfl (q_ldE (xs := a) (el := x) ck_3 rfl isO (by repeat (first | exact List.Mem.head _ | apply List.Mem.tail)) hx rfl) ?_
        refine KO.loud rfl (l_slice sz_36_1 rfl (by repeat (first | exact Fill.nil | (apply Fill.cons; rfl; rfl; rfl) | exact SetN.nil | apply SetN.cons | exact SetAt.here | apply SetAt.there))) ?_
        rintro _ _ ⟨b42, rfl, rfl⟩
        refine KO.loud rfl (l_append (Kd.int .i64) (ys := [x]) se_36 Try.underlying36 ⟨_, ze_3, rfl⟩ (by decide) rfl rfl (by repeat (first | exact Pick.here | apply Pick.there)) isP (by repeat (first | exact List.Mem.head _ | apply List.Mem.tail)) rfl rfl (by show (2 * (O.length + 1) + 768) * 8 ≤ _; omega)) ?_
        rintro _ _ ⟨pn, dn, rfl, rfl⟩
        refine KO.q rfl (q_assign rfl) ?_
        refine KO.done ?_
        refine K.inBlock ?_
        refine K.region ?_
        refine KO.q rfl (q_move rfl) ?_
        refine KO.q rfl (q_add rfl rfl (by first | omega | (simp; omega)) (by first | omega | (simp; omega))) ?_
        refine KO.q rfl (q_assign rfl) ?_
        refine KO.done ?_
        exact K.weak (E' := [(9, .int .i64 ((k + 1 : Nat) : Int)), (8, .int .i64 i), (5, .slice pa a.length ca), (6, .slice pb b.length cb), (7, .slice pn (O ++ if x ∈ b.take (k + 1) then [x] else []).length dn)]) (by rw [e2]; exact (by repeat (first | exact Env.sub_nil _ | refine Env.sub_cons rfl ?_))) (fun w h => by rw [e2]; exact h.fitD) (ih2 ⟨(k + 1, pn, dn), by show k + 1 ≤ _; omega⟩ (by show b.length - (k + 1) < b.length - k; omega))
      · have e2 : (if x ∈ b.take (k + 1) then [x] else []) = if x ∈ b.take k then [x] else [] := by
          by_cases hm : x ∈ b.take k
          · rw [if_pos hm, if_pos (by rw [hbt]; exact List.mem_append.2 (.inl hm))]
          · rw [if_neg hm, if_neg (by rw [hbt, List.mem_append, List.mem_singleton]; exact fun h => h.elim hm g36)]
        refine K.skip <| K.inBlock ?_
        refine K.region ?_
        refine KO.q rfl (q_move rfl) ?_
        refine KO.q rfl (q_add rfl rfl (by first | omega | (simp; omega)) (by first | omega | (simp; omega))) ?_
        refine KO.q rfl (q_assign rfl) ?_
        refine KO.done ?_
        exact K.weak (E' := [(9, .int .i64 ((k + 1 : Nat) : Int)), (8, .int .i64 i), (5, .slice pa a.length ca), (6, .slice pb b.length cb), (7, .slice po (O ++ if x ∈ b.take (k + 1) then [x] else []).length co)]) (by rw [e2]; exact (by repeat (first | exact Env.sub_nil _ | refine Env.sub_cons rfl ?_))) (fun w h => by rw [e2]; exact h.fitD) (ih2 ⟨(k + 1, po, co), by show k + 1 ≤ _; omega⟩ (by show b.length - (k + 1) < b.length - k; omega))
    · obtain rfl : k = b.length := by omega
      clear ih2
      rw [List.take_length]
      have e3 : (a.take (i + 1)).filter (fun x => decide (x ∈ b)) = O ++ if x ∈ b then [x] else [] := by
        rw [hsu]
        by_cases hm : x ∈ b
        · rw [if_pos (decide_eq_true hm), if_pos hm]
        · rw [if_neg (by simpa using hm), if_neg hm]
      refine K.exit rfl ?_
      refine K.inBlock ?_
      refine K.region ?_
      refine KO.q rfl (q_move rfl) ?_
      refine KO.q rfl (q_add rfl rfl (by first | omega | (simp; omega)) (by first | omega | (simp; omega))) ?_
      refine KO.q rfl (q_assign rfl) ?_
      refine KO.done ?_
      exact K.weak (E' := [(8, .int .i64 ((i + 1 : Nat) : Int)), (5, .slice pa a.length ca), (6, .slice pb b.length cb), (7, .slice po ((a.take (i + 1)).filter fun x => decide (x ∈ b)).length co)]) (by rw [e3]; exact (by repeat (first | exact Env.sub_nil _ | refine Env.sub_cons rfl ?_))) (fun w h => by rw [e3]; exact h.fitD) (ih ⟨(i + 1, po, co), by show i + 1 ≤ _; omega⟩ (by show a.length - (i + 1) < a.length - i; omega))
  · obtain rfl : i = a.length := by omega
    rw [List.take_length] at hO
    refine K.exit rfl ?_
    refine K.seq ?_
    refine K.region ?_
    refine KO.q rfl (q_move rfl) ?_
    refine KO.q rfl (q_assign rfl) ?_
    refine KO.done ?_
    refine K.ret (fn := Try.f25) Try.func25 (fun a w hk hs => res1 Try.results25 hk rfl) (fun w hs => ?_)
    refine ⟨_, [RowO (Kd.int .i64) 3 po co O, A], rfl, ⟨O, po, co, rfl, ⟨by rw [hO]; exact hra.1.filter _, fun x => ?_⟩, rfl⟩, hs.fitD⟩
    rw [hO, List.mem_filter, decide_eq_true_iff, hra.2, hrb.2]
    exact Iff.rfl
def vicR (R : List Int) : Int := (R.getLast?).getD 0
def isR (R : List Int) : Bool := !R.isEmpty
theorem vicR_at {R : List Int} {x : Int} (h : R[R.length - 1]? = some x) : vicR R = x := by
  unfold vicR
  rw [List.getLast?_eq_getElem?, h]; rfl
theorem wt_Victim (A : HP) (q : Option Addr) (cap : Nat) (l : List P2) (who : Int) (hA : IsRow A Kd.p2 q l) (hl : l.length ≤ 1000) : Fn Try.prog 21 [.slice q l.length cap, .int .i64 who].toArray [A] (fun r post => ∃ R, r = .tuple #[.int .i64 (vicR R), .bool (isR R)] ∧ RingOf l who R ∧ post = [A]) := by
  refine Fn.enter (N := 19) Try.func21 rfl Try.ntmps21 (by kernel_rfl) rfl (fun ρ L => ?_)
  refine K.seq ?_
  refine K.region ?_
  refine KO.q rfl (q_assign rfl) ?_
  refine KO.q rfl (q_assign rfl) ?_
  refine KO.done ?_
  refine K.seq ?_
  refine K.region ?_
  refine KO.q rfl (q_move rfl) ?_
  refine KO.q rfl (q_move rfl) ?_
  refine KO.loud rfl (OpL.callD rfl (h := wt_Ring A q cap l who hA hl)) ?_
  rintro _ _ ⟨_, ⟨R, po, co, rfl, hR, rfl⟩, rfl⟩
  have hRl := hR.len
  refine KO.q rfl (q_assign rfl) ?_
  refine KO.done ?_
  refine K.seq <| K.seq ?_
  refine K.region ?_
  refine KO.q rfl (q_move rfl) ?_
  refine KO.q rfl (q_len Try.underlying36 rfl) ?_
  refine KO.q rfl (q_eq rfl rfl) ?_
  refine KO.done ?_
  refine K.dcond (s := 12) rfl (fun g12 => ?_) (fun g12 => ?_)
  · have hn : R = [] := List.length_eq_zero_iff.1 (by omega)
    subst hn
    refine K.seq ?_
    refine K.region ?_
    refine KO.q rfl (q_assign rfl) ?_
    refine KO.q rfl (q_assign rfl) ?_
    refine KO.done ?_
    refine K.ret (fn := Try.f21) Try.func21 (fun a w hk hs => res2 Try.results21 hk rfl rfl) (fun w hs => ?_)
    exact ⟨_, [A], rfl, ⟨[], rfl, hR, rfl⟩, hs.fitD⟩
  · obtain ⟨x, hx⟩ : ∃ x, R[R.length - 1]? = some x := ⟨_, List.getElem?_eq_getElem (by omega)⟩
    have hv := vicR_at hx
    have hi : isR R = true := by
      unfold isR
      rw [List.isEmpty_eq_false_iff.2 (fun e => by rw [e] at g12; exact g12 rfl)]; rfl
    refine K.skip <| K.seq ?_
    refine K.region ?_
    refine KO.q rfl (q_move rfl) ?_
    refine KO.q rfl (q_move rfl) ?_
    refine KO.q rfl (q_len Try.underlying36 rfl) ?_
    refine KO.q rfl (q_sub rfl rfl (by first | omega | (simp; omega)) (by first | omega | (simp; omega))) ?_
    refine KO.q rfl (q_ix (xs := R) (R.length - 1) se_36 rfl rfl (by omega) isO (by repeat (first | exact List.Mem.head _ | apply List.Mem.tail)) rfl (by omega)) ?_
    refine KO.q rfl (q_ldE (xs := R) (el := x) ck_3 rfl isO (by repeat (first | exact List.Mem.head _ | apply List.Mem.tail)) hx rfl) ?_
    refine KO.q rfl (q_assign rfl) ?_
    refine KO.q rfl (q_assign rfl) ?_
    refine KO.done ?_
    refine K.ret (fn := Try.f21) Try.func21 (fun a w hk hs => res2 Try.results21 hk rfl rfl) (fun w hs => ?_)
    exact ⟨_, [A], rfl, ⟨R, by rw [hv, hi], hR, rfl⟩, hs.fitD⟩
theorem rf_Victim (A : HP) (q : Option Addr) (cap : Nat) (l : List P2) (who : Int) (hA : IsRow A Kd.p2 q l) (hl : l.length ≤ 1000) : Fn Try.prog 22 [.slice q l.length cap, .int .i64 who].toArray [A] (fun r post => ∃ R, r = .tuple #[.int .i64 (vicR R), .bool (isR R)] ∧ RingOf l who R ∧ post = [A]) := by
  refine Fn.enter (N := 19) Try.func22 rfl Try.ntmps22 (by kernel_rfl) rfl (fun ρ L => ?_)
  refine K.seq ?_
  refine K.region ?_
  refine KO.q rfl (q_assign rfl) ?_
  refine KO.q rfl (q_assign rfl) ?_
  refine KO.done ?_
  refine K.seq ?_
  refine K.region ?_
  refine KO.q rfl (q_move rfl) ?_
  refine KO.q rfl (q_move rfl) ?_
  refine KO.loud rfl (OpL.callD rfl (h := rf_Ring A q cap l who hA hl)) ?_
  rintro _ _ ⟨_, ⟨R, po, co, rfl, hR, rfl⟩, rfl⟩
  have hRl := hR.len
  refine KO.q rfl (q_assign rfl) ?_
  refine KO.done ?_
  refine K.seq <| K.seq ?_
  refine K.region ?_
  refine KO.q rfl (q_move rfl) ?_
  refine KO.q rfl (q_len Try.underlying36 rfl) ?_
  refine KO.q rfl (q_eq rfl rfl) ?_
  refine KO.done ?_
  refine K.dcond (s := 12) rfl (fun g12 => ?_) (fun g12 => ?_)
  · have hn : R = [] := List.length_eq_zero_iff.1 (by omega)
    subst hn
    refine K.seq ?_
    refine K.region ?_
    refine KO.q rfl (q_assign rfl) ?_
    refine KO.q rfl (q_assign rfl) ?_
    refine KO.done ?_
    refine K.ret (fn := Try.f22) Try.func22 (fun a w hk hs => res2 Try.results22 hk rfl rfl) (fun w hs => ?_)
    exact ⟨_, [A], rfl, ⟨[], rfl, hR, rfl⟩, hs.fitD⟩
  · obtain ⟨x, hx⟩ : ∃ x, R[R.length - 1]? = some x := ⟨_, List.getElem?_eq_getElem (by omega)⟩
    have hv := vicR_at hx
    have hi : isR R = true := by
      unfold isR
      rw [List.isEmpty_eq_false_iff.2 (fun e => by rw [e] at g12; exact g12 rfl)]; rfl
    refine K.skip <| K.seq ?_
    refine K.region ?_
    refine KO.q rfl (q_move rfl) ?_
    refine KO.q rfl (q_move rfl) ?_
    refine KO.q rfl (q_len Try.underlying36 rfl) ?_
    refine KO.q rfl (q_sub rfl rfl (by first | omega | (simp; omega)) (by first | omega | (simp; omega))) ?_
    refine KO.q rfl (q_ix (xs := R) (R.length - 1) se_36 rfl rfl (by omega) isO (by repeat (first | exact List.Mem.head _ | apply List.Mem.tail)) rfl (by omega)) ?_
    refine KO.q rfl (q_ldE (xs := R) (el := x) ck_3 rfl isO (by repeat (first | exact List.Mem.head _ | apply List.Mem.tail)) hx rfl) ?_
    refine KO.q rfl (q_assign rfl) ?_
    refine KO.q rfl (q_assign rfl) ?_
    refine KO.done ?_
    refine K.ret (fn := Try.f22) Try.func22 (fun a w hk hs => res2 Try.results22 hk rfl rfl) (fun w hs => ?_)
    exact ⟨_, [A], rfl, ⟨R, by rw [hv, hi], hR, rfl⟩, hs.fitD⟩
end Go.Proofs.Ytfpkeanimkgpaaa.L
