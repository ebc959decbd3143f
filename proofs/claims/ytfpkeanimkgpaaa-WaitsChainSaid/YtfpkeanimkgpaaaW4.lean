/- Walks: victims; the document's rings and victims. -/
import Derived.Test.YtfpkeanimkgpaaaW3
import Derived.Test.YtfpkeanimkgpaaaH6
namespace Go.Proofs.Ytfpkeanimkgpaaa.L
open Go Go.Proofs
attribute [local irreducible] pv fv pt fz RowF RowO rowP old pure_ elA
set_option maxRecDepth 100000
set_option linter.unusedSimpArgs false
set_option linter.unusedVariables false

theorem RingOf.len {l : List P2} {who : Int} {R : List Int} (h : RingOf l who R) : R.length ≤ l.length := by
  have hn : R.Nodup := h.up.imp (fun hab => Int.ne_of_lt hab)
  have := nodup_len (m := l.map P2.b) hn (fun y hy => by
    have h2 := ((h.mem y).1 hy).1
    cases h2 with
    | one h3 => exact List.mem_map.2 ⟨_, adjF_mem.1 h3, rfl⟩
    | more _ h3 => exact List.mem_map.2 ⟨_, adjF_mem.1 h3, rfl⟩)
  rwa [List.length_map] at this
theorem Rch.mid2 {f : Int → List Int} {who x : Int} {S W : List Int} (h : Rch f who S (x :: W)) : Mid f who x [] S W := ⟨h.nd, h.sound, (fun y hy => h.work y (List.mem_cons_of_mem _ hy)), fun z hz => by
    rcases h.done z hz with h1 | h1
    · rcases List.mem_cons.1 h1 with h2 | h2
      · exact .inl h2
      · exact .inr (.inl h2)
    · exact .inr (.inr h1), (fun y h => by cases h), h.work x List.mem_cons_self⟩
/-- In order, and the same numbers. -/
structure Srted (O S : List Int) : Prop where
  up : O.Pairwise (· < ·)
  mem : ∀ x, x ∈ O ↔ x ∈ S
theorem up_nodup {l : List Int} (h : l.Pairwise (· < ·)) : l.Nodup := h.imp (fun hab => Int.ne_of_lt hab)
theorem Srted.step {O S : List Int} (h : Srted O S) (y : Int) : Srted (insI O y) (putS S y) := ⟨insI_up O y h.up, fun x => by rw [insI_mem, mem_putS, h.mem, or_comm]⟩
theorem Srted.len {O S : List Int} (h : Srted O S) (y : Int) : (insI O y).length = if y ∈ S then O.length else O.length + 1 := by
  have h1 := up_nodup (insI_up O y h.up)
  have h2 := up_nodup h.up
  split
  · rename_i hy
    have hyO := (h.mem y).2 hy
    refine Nat.le_antisymm (nodup_len h1 fun x hx => ?_) (nodup_len h2 fun x hx => (insI_mem O y x).2 (.inr hx))
    rcases (insI_mem O y x).1 hx with rfl | h3
    · exact hyO
    · exact h3
  · rename_i hy
    have hyO : y ∉ O := fun h3 => hy ((h.mem y).1 h3)
    refine Nat.le_antisymm ?_ ?_
    · exact nodup_len (m := y :: O) h1 fun x hx => List.mem_cons.2 ((insI_mem O y x).1 hx)
    · exact nodup_len (l := y :: O) (List.nodup_cons.2 ⟨hyO, h2⟩) fun x hx => (insI_mem O y x).2 (List.mem_cons.1 hx)
def bkL (back : Bool) (l : List P2) : List P2 := if back = true then l.map P2.swp else l
theorem bkL_len (back : Bool) (l : List P2) : (bkL back l).length = l.length := by
  unfold bkL
  split
  · exact List.length_map _
  · rfl
theorem adj_step {l : List P2} {i : Nat} {e : P2} (h : l[i]? = some e) (x : Int) : adjF (l.take (i + 1)) x = if x = e.a then adjF (l.take i) x ++ [e.b] else adjF (l.take i) x := by
  have := congrFun (addL_succ (fun _ => []) h) x
  unfold adjF
  rw [← this]
  by_cases hx : x = e.a
  · simp only [if_pos hx]; rw [hx]
  · simp only [if_neg hx]
set_option maxHeartbeats 6400000 in
theorem rf_from (A : HP) (q : Option Addr) (cap : Nat) (l : List P2) (who : Int) (back : Bool) (hA : IsRow A Kd.p2 q l) (hl : l.length ≤ 1000) : Fn Try.prog 53 [.slice q l.length cap, .int .i64 who, .bool back].toArray [A] (fun r post => ∃ O po co, r = .slice po O.length co ∧ (O.Pairwise (· < ·) ∧ ∀ x, x ∈ O ↔ Reach (adjF (bkL back l)) who x) ∧ post = [RowO (Kd.int .i64) 3 po co O, A]) := by
  obtain ⟨U, hUd⟩ : ∃ U, U = (bkL back l).map P2.b := ⟨_, rfl⟩
  have hU : ∀ x y, y ∈ adjF (bkL back l) x → y ∈ U := fun x y h => by rw [hUd]; exact List.mem_map.2 ⟨_, adjF_mem.1 h, rfl⟩
  have hUl : U.length ≤ 1000 := by rw [hUd, List.length_map, bkL_len]; exact hl
  have hSU : ∀ {S : List Int}, S.Nodup → (∀ y ∈ S, Reach (adjF (bkL back l)) who y) → S.length ≤ U.length := fun {S} h1 h2 => nodup_len h1 (fun y hy => by
    have := h2 y hy
    cases this with
    | one h3 => exact hU _ _ h3
    | more _ h3 => exact hU _ _ h3)
  clear hUd
  refine Fn.enter (N := 68) Try.func53 rfl Try.ntmps53 (by kernel_rfl) rfl (fun ρ L => ?_)
  refine K.seq ?_
  refine K.region ?_
  refine KO.q rfl (q_assign rfl) ?_
  refine KO.done ?_
  refine K.seq ?_
  refine K.region ?_
  refine KO.q rfl (q_assign rfl) ?_
  refine KO.done ?_
  refine K.seq ?_
  refine K.region ?_
  refine KO.q rfl (q_move rfl) ?_
  refine KO.loud rfl (l_slice sz_36_1 rfl (by repeat (first | exact Fill.nil | (apply Fill.cons; rfl; rfl; rfl) | exact SetN.nil | apply SetN.cons | exact SetAt.here | apply SetAt.there))) ?_
  rintro _ _ ⟨b15, rfl, rfl⟩
  refine KO.q rfl (q_assign rfl) ?_
  refine KO.done ?_
  refine K.st (fun w h => pv_own1 (h.pick (by repeat (first | exact Pick.here | apply Pick.there)))) ?_
  refine K.st (fun w h => rowO_nil (k := Kd.int .i64) 3 h) ?_
  refine K.seq <| K.block ?_
  refine K.rounds2 (ι := { s : (List Int × List Int × List Int) × (Option Addr × Nat) × (Option Addr × Nat) // Rch (adjF (bkL back l)) who s.1.1 s.1.2.1 ∧ Srted s.1.2.2 s.1.1 ∧ rMeas U s.1.1 s.1.2.1 ≤ 2 * U.length + 1 }) (fun s => [(8, .slice s.1.2.1.1 s.1.1.2.1.length s.1.2.1.2), (7, .slice s.1.2.2.1 s.1.1.2.2.length s.1.2.2.2), (0, .slice q l.length cap), (2, .bool back)]) (fun s => [RowO (Kd.int .i64) 3 s.1.2.1.1 s.1.2.1.2 s.1.1.2.1, RowO (Kd.int .i64) 3 s.1.2.2.1 s.1.2.2.2 s.1.1.2.2, A] ++ L) (fun s => rMeas U s.1.1.1 s.1.1.2.1) ⟨(([], [who], []), (some ⟨b15, 0, none⟩, 1), (none, 0)), Rch.start _ who, ⟨List.Pairwise.nil, fun x => Iff.rfl⟩, by unfold rMeas; simp⟩ (by repeat (first | exact Env.sub_nil _ | refine Env.sub_cons rfl ?_)) (fun w h => h.fitD) (fun s ih => ?_)
  obtain ⟨⟨⟨S, W, O⟩, ⟨p, c⟩, po, co⟩, hr, hso, hme⟩ := s
  dsimp only at hr hso hme ⊢
  refine K.seq <| K.seq ?_
  refine K.region ?_
  refine KO.q rfl (q_move rfl) ?_
  refine KO.q rfl (q_len Try.underlying36 rfl) ?_
  refine KO.q rfl (q_gt rfl rfl) ?_
  refine KO.done ?_
  refine K.dcond (s := 18) rfl (fun g18 => ?_) (fun g18 => ?_)
  · obtain ⟨x, W0, rfl⟩ := ne_cons g18
    have hm0 := hr.mid2
    have hme0 : rMeas U S W0 + 1 = rMeas U S (x :: W0) := by unfold rMeas; simp only [List.length_cons]; omega
    refine K.fact (fun w h => rowO_cap (e := 3) (k := Kd.int .i64) (p := p) (cap := c) (xs := x :: W0) (by repeat (first | exact List.Mem.head _ | apply List.Mem.tail)) w h) (fun hc2 => ?_)
    refine K.skip <| K.block <| K.seq ?_
    refine K.region ?_
    refine KO.q rfl (q_move rfl) ?_
    refine KO.q rfl (q_ix (xs := x :: W0) 0 se_36 rfl rfl rfl isO (by repeat (first | exact List.Mem.head _ | apply List.Mem.tail)) rfl (Nat.succ_pos _)) ?_
    refine KO.q rfl (q_ldE (xs := x :: W0) (el := x) ck_3 rfl isO (by repeat (first | exact List.Mem.head _ | apply List.Mem.tail)) rfl rfl) ?_
    refine KO.q rfl (q_assign rfl) ?_
    refine KO.done ?_
    refine K.seq ?_
    refine K.region ?_
    refine KO.q rfl (q_move rfl) ?_
    refine KO.q rfl (q_cutL se_36 rfl rfl (by decide) (by show (1 : Int) ≤ ((W0.length + 1 : Nat) : Int); omega) hc2) ?_
    refine KO.q rfl (q_assign rfl) ?_
    refine KO.done ?_
    refine K.st (fun w h => rowO_drop (xs := x :: W0) 1 (Nat.succ_le_succ (Nat.zero_le _)) (h.pick (by repeat (first | exact Pick.here | apply Pick.there)))) ?_
    refine K.seq ?_
    refine K.region ?_
    refine KO.q rfl (q_assign rfl) ?_
    refine KO.done ?_
    refine K.block ?_
    refine K.rounds2 (ι := { s : Nat × (List Int × List Int × List Int) × (Option Addr × Nat) × (Option Addr × Nat) // s.1 ≤ l.length ∧ Mid (adjF (bkL back l)) who x (adjF ((bkL back l).take s.1) x) s.2.1.1 s.2.1.2.1 ∧ Srted s.2.1.2.2 s.2.1.1 ∧ rMeas U s.2.1.1 s.2.1.2.1 ≤ rMeas U S W0 }) (fun s => [(10, .int .i64 s.1.1), (9, .int .i64 x), (8, .slice s.1.2.2.1.1 s.1.2.1.2.1.length s.1.2.2.1.2), (7, .slice s.1.2.2.2.1 s.1.2.1.2.2.length s.1.2.2.2.2), (0, .slice q l.length cap), (2, .bool back)]) (fun s => [RowO (Kd.int .i64) 3 s.1.2.2.1.1 s.1.2.2.1.2 s.1.2.1.2.1, RowO (Kd.int .i64) 3 s.1.2.2.2.1 s.1.2.2.2.2 s.1.2.1.2.2, A] ++ L) (fun s => l.length - s.1.1) ⟨(0, (S, W0, O), (cutAddr p c 1 1, c - 1), (po, co)), Nat.zero_le _, hm0, hso, Nat.le_refl _⟩ (by repeat (first | exact Env.sub_nil _ | refine Env.sub_cons rfl ?_)) (fun w h => h.fitD) (fun s ih2 => ?_)
    obtain ⟨⟨i, ⟨S1, W1, O1⟩, ⟨p, c⟩, po, co⟩, hi, hmid, hso1, hme1⟩ := s
    dsimp only at hi hmid hso1 hme1 ⊢
    refine K.seq <| K.seq ?_
    refine K.region ?_
    refine KO.q rfl (q_move rfl) ?_
    refine KO.q rfl (q_move rfl) ?_
    refine KO.q rfl (q_len Try.underlying32 rfl) ?_
    refine KO.q rfl (q_lt rfl rfl) ?_
    refine KO.done ?_
    refine K.dcond (s := 27) rfl (fun g27 => ?_) (fun g27 => ?_)
    · obtain ⟨e, he⟩ : ∃ e, l[i]? = some e := ⟨_, List.getElem?_eq_getElem (by omega)⟩
      have hW1 : W1.length ≤ 3000 := by
        have : W1.length ≤ rMeas U S1 W1 := Nat.le_add_left _ _
        omega
      have hO1 : O1.length ≤ 1000 := by
        have h1 := hSU hmid.nd hmid.sound
        have h2 := nodup_len (up_nodup hso1.up) (fun x hx => (hso1.mem x).1 hx)
        omega
      refine K.skip <| K.seq <| K.block <| K.seq ?_
      refine K.region ?_
      refine KO.q rfl (q_move rfl) ?_
      refine KO.q rfl (q_move rfl) ?_
      refine KO.q rfl (q_ix (xs := l) i se_32 rfl rfl rfl hA (by repeat (first | exact List.Mem.head _ | apply List.Mem.tail)) rfl (by omega)) ?_
      refine KO.q rfl (q_ixAE 0 ar_p2 rfl rfl (by decide)) ?_
      refine KO.q rfl (q_ldE (el := e) ck_3 rfl hA (by repeat (first | exact List.Mem.head _ | apply List.Mem.tail)) he rfl) ?_
      refine KO.q rfl (q_assign rfl) ?_
      refine KO.done ?_
      refine K.seq ?_
      refine K.region ?_
      refine KO.q rfl (q_move rfl) ?_
      refine KO.q rfl (q_move rfl) ?_
      refine KO.q rfl (q_ix (xs := l) i se_32 rfl rfl rfl hA (by repeat (first | exact List.Mem.head _ | apply List.Mem.tail)) rfl (by omega)) ?_
      refine KO.q rfl (q_ixAE 1 ar_p2 rfl rfl (by decide)) ?_
      refine KO.q rfl (q_ldE (el := e) ck_3 rfl hA (by repeat (first | exact List.Mem.head _ | apply List.Mem.tail)) he rfl) ?_
      refine KO.q rfl (q_assign rfl) ?_
      refine KO.done ?_
      refine K.seq <| K.seq ?_
      refine K.region ?_
      refine KO.q rfl (q_move rfl) ?_
      refine KO.done ?_
      first | refine K.dcond (s := 40) rfl (fun g40 => ?_) (fun g40 => ?_) | refine K.bcond (s := 40) rfl (fun g40 => ?_) (fun g40 => ?_)
      · obtain ⟨e', he'⟩ : ∃ e', e' = e.swp := ⟨_, rfl⟩
        have hea : e.b = e'.a := by rw [he']; rfl
        have heb : e.a = e'.b := by rw [he']; rfl
        have hli : (bkL back l)[i]? = some e' := by
          rw [g40, he']
          show (l.map P2.swp)[i]? = _
          rw [List.getElem?_map, he]; rfl
        refine K.seq ?_
        refine K.region ?_
        refine KO.q rfl (q_move rfl) ?_
        refine KO.q rfl (q_move rfl) ?_
        refine KO.q rfl (q_ix (xs := l) i se_32 rfl rfl rfl hA (by repeat (first | exact List.Mem.head _ | apply List.Mem.tail)) rfl (by omega)) ?_
        refine KO.q rfl (q_ixAE 1 ar_p2 rfl rfl (by decide)) ?_
        refine KO.q rfl (q_ldE (el := e) ck_3 rfl hA (by repeat (first | exact List.Mem.head _ | apply List.Mem.tail)) he rfl) ?_
        refine KO.q rfl (q_assign rfl) ?_
        refine KO.done ?_
        refine K.region ?_
        refine KO.q rfl (q_move rfl) ?_
        refine KO.q rfl (q_move rfl) ?_
        refine KO.q rfl (q_ix (xs := l) i se_32 rfl rfl rfl hA (by repeat (first | exact List.Mem.head _ | apply List.Mem.tail)) rfl (by omega)) ?_
        refine KO.q rfl (q_ixAE 0 ar_p2 rfl rfl (by decide)) ?_
        refine KO.q rfl (q_ldE (el := e) ck_3 rfl hA (by repeat (first | exact List.Mem.head _ | apply List.Mem.tail)) he rfl) ?_
        refine KO.q rfl (q_assign rfl) ?_
        refine KO.done ?_
        refine K.seq <| K.seq ?_
        rw [hea, heb]
        have hst := adj_step hli x
        refine K.region ?_
        refine KO.q rfl (q_move rfl) ?_
        refine KO.q rfl (q_move rfl) ?_
        refine KO.q rfl (q_ne rfl rfl) ?_
        refine KO.done ?_
        refine K.dcond (s := 53) rfl (fun g53 => ?_) (fun g53 => ?_)
        · rw [if_neg (fun h => g53 h.symm)] at hst
          rw [← hst] at hmid
          refine K.exit rfl ?_
          refine K.region ?_
          refine KO.q rfl (q_move rfl) ?_
          refine KO.q rfl (q_add rfl rfl (by first | omega | (simp; omega)) (by first | omega | (simp; omega))) ?_
          refine KO.q rfl (q_assign rfl) ?_
          refine KO.done ?_
          exact K.weak (by repeat (first | exact Env.sub_nil _ | refine Env.sub_cons rfl ?_)) (fun w h => h.fitD) (ih2 ⟨(i + 1, (S1, W1, O1), (p, c), po, co), by show i + 1 ≤ _; omega, hmid, hso1, hme1⟩ (by show l.length - (i + 1) < l.length - i; omega))
        · have g53 := Decidable.not_not.1 g53
          rw [if_pos g53.symm] at hst
          have hstep := hmid.step (y := e'.b) (adjF_mem.2 (by rw [← g53]; exact List.mem_of_getElem? hli))
          rw [← hst] at hstep
          have hss := hso1.step e'.b
          have hsl := hso1.len e'.b
          have hms := rMeas_step (U := U) (S := S1) (W := W1) (y := e'.b) (hSU hstep.nd hstep.sound)
          refine K.skip <| K.seq ?_
          refine K.region ?_
          refine KO.q rfl (q_move rfl) ?_
          refine KO.q rfl (q_len Try.underlying36 rfl) ?_
          refine KO.q rfl (q_assign rfl) ?_
          refine KO.done ?_
          refine K.seq ?_
          refine K.region ?_
          refine KO.q rfl (q_move rfl) ?_
          refine KO.q rfl (q_move rfl) ?_
          refine KO.loud rfl (OpL.callD rfl (h := rf_insert po co O1 e'.b (by omega))) ?_
          rintro _ _ ⟨_, ⟨pn, dn, rfl, rfl⟩, rfl⟩
          refine KO.q rfl (q_assign rfl) ?_
          refine KO.done ?_
          refine K.seq ?_
          refine K.region ?_
          refine KO.q rfl (q_move rfl) ?_
          refine KO.q rfl (q_len Try.underlying36 rfl) ?_
          refine KO.q rfl (q_move rfl) ?_
          refine KO.q rfl (q_gt rfl rfl) ?_
          refine KO.done ?_
          refine K.dcond (s := 62) rfl (fun g62 => ?_) (fun g62 => ?_)
          · have hn : e'.b ∉ S1 := fun h => by rw [if_pos h] at hsl; omega
            have e1 : putS S1 e'.b = S1 ++ [e'.b] := if_neg hn
            have e2 : putW S1 W1 e'.b = W1 ++ [e'.b] := if_neg hn
            rw [e1, e2] at hstep hms
            rw [e1] at hss
            refine K.region ?_
            refine KO.q rfl (q_move rfl) ?_
            refine KO.q rfl (q_move rfl) ?_
            refine KO.loud rfl (l_slice sz_36_1 rfl (by repeat (first | exact Fill.nil | (apply Fill.cons; rfl; rfl; rfl) | exact SetN.nil | apply SetN.cons | exact SetAt.here | apply SetAt.there))) ?_
            rintro _ _ ⟨b65, rfl, rfl⟩
            refine KO.loud rfl (l_append (Kd.int .i64) (ys := [e'.b]) se_36 Try.underlying36 ⟨_, ze_3, rfl⟩ (by decide) rfl rfl (by repeat (first | exact Pick.here | apply Pick.there)) isP (by repeat (first | exact List.Mem.head _ | apply List.Mem.tail)) rfl rfl (by show (2 * (W1.length + 1) + 768) * 8 ≤ _; omega)) ?_
            rintro _ _ ⟨pw, dw, rfl, rfl⟩
            refine KO.q rfl (q_assign rfl) ?_
            refine KO.done ?_
            refine K.inBlock ?_
            refine K.region ?_
            refine KO.q rfl (q_move rfl) ?_
            refine KO.q rfl (q_add rfl rfl (by first | omega | (simp; omega)) (by first | omega | (simp; omega))) ?_
            refine KO.q rfl (q_assign rfl) ?_
            refine KO.done ?_
            exact K.weak (by repeat (first | exact Env.sub_nil _ | refine Env.sub_cons rfl ?_)) (fun w h => h.fitD) (ih2 ⟨(i + 1, (S1 ++ [e'.b], W1 ++ [e'.b], insI O1 e'.b), (pw, dw), pn, dn), by show i + 1 ≤ _; omega, hstep, hss, Nat.le_trans hms hme1⟩ (by show l.length - (i + 1) < l.length - i; omega))
          · have hn : e'.b ∈ S1 := Decidable.byContradiction fun h => by rw [if_neg h] at hsl; omega
            have e1 : putS S1 e'.b = S1 := if_pos hn
            have e2 : putW S1 W1 e'.b = W1 := if_pos hn
            rw [e1, e2] at hstep hms
            rw [e1] at hss
            refine K.skip <| K.inBlock ?_
            refine K.region ?_
            refine KO.q rfl (q_move rfl) ?_
            refine KO.q rfl (q_add rfl rfl (by first | omega | (simp; omega)) (by first | omega | (simp; omega))) ?_
            refine KO.q rfl (q_assign rfl) ?_
            refine KO.done ?_
            exact K.weak (by repeat (first | exact Env.sub_nil _ | refine Env.sub_cons rfl ?_)) (fun w h => h.fitD) (ih2 ⟨(i + 1, (S1, W1, insI O1 e'.b), (p, c), pn, dn), by show i + 1 ≤ _; omega, hstep, hss, Nat.le_trans hms hme1⟩ (by show l.length - (i + 1) < l.length - i; omega))
      · obtain ⟨e', he'⟩ : ∃ e', e' = e := ⟨_, rfl⟩
        have hli : (bkL back l)[i]? = some e' := by rw [g40, he']; exact he
        rw [← he']
        have hst := adj_step hli x
        refine K.skip <| K.seq <| K.seq ?_
        refine K.region ?_
        refine KO.q rfl (q_move rfl) ?_
        refine KO.q rfl (q_move rfl) ?_
        refine KO.q rfl (q_ne rfl rfl) ?_
        refine KO.done ?_
        refine K.dcond (s := 53) rfl (fun g53 => ?_) (fun g53 => ?_)
        · rw [if_neg (fun h => g53 h.symm)] at hst
          rw [← hst] at hmid
          refine K.exit rfl ?_
          refine K.region ?_
          refine KO.q rfl (q_move rfl) ?_
          refine KO.q rfl (q_add rfl rfl (by first | omega | (simp; omega)) (by first | omega | (simp; omega))) ?_
          refine KO.q rfl (q_assign rfl) ?_
          refine KO.done ?_
          exact K.weak (by repeat (first | exact Env.sub_nil _ | refine Env.sub_cons rfl ?_)) (fun w h => h.fitD) (ih2 ⟨(i + 1, (S1, W1, O1), (p, c), po, co), by show i + 1 ≤ _; omega, hmid, hso1, hme1⟩ (by show l.length - (i + 1) < l.length - i; omega))
        · have g53 := Decidable.not_not.1 g53
          rw [if_pos g53.symm] at hst
          have hstep := hmid.step (y := e'.b) (adjF_mem.2 (by rw [← g53]; exact List.mem_of_getElem? hli))
          rw [← hst] at hstep
          have hss := hso1.step e'.b
          have hsl := hso1.len e'.b
          have hms := rMeas_step (U := U) (S := S1) (W := W1) (y := e'.b) (hSU hstep.nd hstep.sound)
          refine K.skip <| K.seq ?_
          refine K.region ?_
          refine KO.q rfl (q_move rfl) ?_
          refine KO.q rfl (q_len Try.underlying36 rfl) ?_
          refine KO.q rfl (q_assign rfl) ?_
          refine KO.done ?_
          refine K.seq ?_
          refine K.region ?_
          refine KO.q rfl (q_move rfl) ?_
          refine KO.q rfl (q_move rfl) ?_
          refine KO.loud rfl (OpL.callD rfl (h := rf_insert po co O1 e'.b (by omega))) ?_
          rintro _ _ ⟨_, ⟨pn, dn, rfl, rfl⟩, rfl⟩
          refine KO.q rfl (q_assign rfl) ?_
          refine KO.done ?_
          refine K.seq ?_
          refine K.region ?_
          refine KO.q rfl (q_move rfl) ?_
          refine KO.q rfl (q_len Try.underlying36 rfl) ?_
          refine KO.q rfl (q_move rfl) ?_
          refine KO.q rfl (q_gt rfl rfl) ?_
          refine KO.done ?_
          refine K.dcond (s := 62) rfl (fun g62 => ?_) (fun g62 => ?_)
          · have hn : e'.b ∉ S1 := fun h => by rw [if_pos h] at hsl; omega
            have e1 : putS S1 e'.b = S1 ++ [e'.b] := if_neg hn
            have e2 : putW S1 W1 e'.b = W1 ++ [e'.b] := if_neg hn
            rw [e1, e2] at hstep hms
            rw [e1] at hss
            refine K.region ?_
            refine KO.q rfl (q_move rfl) ?_
            refine KO.q rfl (q_move rfl) ?_
            refine KO.loud rfl (l_slice sz_36_1 rfl (by repeat (first | exact Fill.nil | (apply Fill.cons; rfl; rfl; rfl) | exact SetN.nil | apply SetN.cons | exact SetAt.here | apply SetAt.there))) ?_
            rintro _ _ ⟨b65, rfl, rfl⟩
            refine KO.loud rfl (l_append (Kd.int .i64) (ys := [e'.b]) se_36 Try.underlying36 ⟨_, ze_3, rfl⟩ (by decide) rfl rfl (by repeat (first | exact Pick.here | apply Pick.there)) isP (by repeat (first | exact List.Mem.head _ | apply List.Mem.tail)) rfl rfl (by show (2 * (W1.length + 1) + 768) * 8 ≤ _; omega)) ?_
            rintro _ _ ⟨pw, dw, rfl, rfl⟩
            refine KO.q rfl (q_assign rfl) ?_
            refine KO.done ?_
            refine K.inBlock ?_
            refine K.region ?_
            refine KO.q rfl (q_move rfl) ?_
            refine KO.q rfl (q_add rfl rfl (by first | omega | (simp; omega)) (by first | omega | (simp; omega))) ?_
            refine KO.q rfl (q_assign rfl) ?_
            refine KO.done ?_
            exact K.weak (by repeat (first | exact Env.sub_nil _ | refine Env.sub_cons rfl ?_)) (fun w h => h.fitD) (ih2 ⟨(i + 1, (S1 ++ [e'.b], W1 ++ [e'.b], insI O1 e'.b), (pw, dw), pn, dn), by show i + 1 ≤ _; omega, hstep, hss, Nat.le_trans hms hme1⟩ (by show l.length - (i + 1) < l.length - i; omega))
          · have hn : e'.b ∈ S1 := Decidable.byContradiction fun h => by rw [if_neg h] at hsl; omega
            have e1 : putS S1 e'.b = S1 := if_pos hn
            have e2 : putW S1 W1 e'.b = W1 := if_pos hn
            rw [e1, e2] at hstep hms
            rw [e1] at hss
            refine K.skip <| K.inBlock ?_
            refine K.region ?_
            refine KO.q rfl (q_move rfl) ?_
            refine KO.q rfl (q_add rfl rfl (by first | omega | (simp; omega)) (by first | omega | (simp; omega))) ?_
            refine KO.q rfl (q_assign rfl) ?_
            refine KO.done ?_
            exact K.weak (by repeat (first | exact Env.sub_nil _ | refine Env.sub_cons rfl ?_)) (fun w h => h.fitD) (ih2 ⟨(i + 1, (S1, W1, insI O1 e'.b), (p, c), pn, dn), by show i + 1 ≤ _; omega, hstep, hss, Nat.le_trans hms hme1⟩ (by show l.length - (i + 1) < l.length - i; omega))
    · obtain rfl : i = l.length := by omega
      clear ih2
      rw [← bkL_len back l, List.take_length] at hmid
      have hrch : Rch (adjF (bkL back l)) who S1 W1 := Mid.rch hmid (fun y hy => hy) (fun y hy => .inl hy)
      refine K.exit rfl ?_
      refine K.inBlock ?_
      exact K.weak (by repeat (first | exact Env.sub_nil _ | refine Env.sub_cons rfl ?_)) (fun w h => h.fitD) (ih ⟨((S1, W1, O1), (p, c), po, co), hrch, hso1, by show rMeas U S1 W1 ≤ _; omega⟩ (by show rMeas U S1 W1 < rMeas U S (x :: W0); omega))
  · obtain rfl := no_cons g18
    refine K.exit rfl ?_
    refine K.seq ?_
    refine K.region ?_
    refine KO.q rfl (q_move rfl) ?_
    refine KO.q rfl (q_assign rfl) ?_
    refine KO.done ?_
    refine K.ret (fn := Try.f53) Try.func53 (fun a w hk hs => res1 Try.results53 hk rfl) (fun w hs => ?_)
    exact ⟨_, [RowO (Kd.int .i64) 3 po co O, A], rfl, ⟨O, po, co, rfl, ⟨hso.up, fun x => by rw [hso.mem, hr.all]⟩, rfl⟩, hs.fitD⟩
end Go.Proofs.Ytfpkeanimkgpaaa.L
