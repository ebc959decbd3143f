/- Plain: a line of readers and writers; who holds and wants more. -/
import Derived.Test.YtcpkcjabmookmaaGreatPF
namespace Go.Proofs.YtcpkcjabmookmaaGreat.L
open Go Go.Proofs
set_option linter.unusedSimpArgs false
set_option linter.unusedVariables false

theorem fits33 : fitsM 3 3 = true := by decide +kernel
theorem fits53 : fitsM 5 3 = false := by decide +kernel
theorem fits35 : fitsM 3 5 = false := by decide +kernel
theorem fits55 : fitsM 5 5 = false := by decide +kernel
theorem at1_no {l : List One} {who : Int} (h : ∀ x ∈ l, x.who ≠ who) : ¬ 0 ≤ at1 l who := fun h0 => by
  obtain ⟨x, hx, hw⟩ := List.mem_map.1 (at1_nonneg.1 h0)
  exact h x hx hw
theorem filter_no {l : List One} {who : Int} (h : ∀ x ∈ l, x.who ≠ who) : l.filter (fun x => !decide (x.who = who)) = l := by
  rw [List.filter_eq_self]
  intro x hx
  simp [h x hx]
theorem Lk.grant_new {h l : List One} {x : One} (hn : ∀ y ∈ h, y.who ≠ x.who) : (Lk.mk h l).grant x = ⟨h ++ [x], l⟩ := by
  unfold Lk.grant
  rw [if_neg (at1_no hn)]

/-! ### The line of readers and writers -/
def lnF : List Bool → Nat → List One
  | [], _ => []
  | b :: bs, i => ⟨(i : Int), if b = true then 5 else 3⟩ :: lnF bs (i + 1)
theorem lnF_len : ∀ (bs : List Bool) (i : Nat), (lnF bs i).length = bs.length
  | [], _ => rfl
  | b :: bs, i => by simp [lnF, lnF_len bs]
theorem lnF_mem : ∀ {bs : List Bool} {i : Nat} {x : One}, x ∈ lnF bs i → ∃ j : Nat, i ≤ j ∧ j < i + bs.length ∧ x.who = j
  | [], i, x, h => by cases h
  | b :: bs, i, x, h => by
    rcases List.mem_cons.1 h with rfl | h
    · exact ⟨i, Nat.le_refl _, by simp, rfl⟩
    · obtain ⟨j, h1, h2, h3⟩ := lnF_mem h
      exact ⟨j, by omega, by simp only [List.length_cons]; omega, h3⟩
theorem lnF_snoc : ∀ (bs : List Bool) (b : Bool) (i : Nat), lnF (bs ++ [b]) i = lnF bs i ++ [⟨((i + bs.length : Nat) : Int), if b = true then 5 else 3⟩]
  | [], b, i => rfl
  | c :: bs, b, i => by
    have := lnF_snoc bs b (i + 1)
    simp only [List.cons_append, lnF, this, List.length_cons]
    rw [show i + 1 + bs.length = i + (bs.length + 1) by omega]
def ints (i n : Nat) : List Int := (List.range' i n).map (fun (j : Nat) => (j : Int))
theorem ints_len (i n : Nat) : (ints i n).length = n := by simp [ints]
theorem ints_get {i n j : Nat} (h : j < n) : (ints i n)[j]? = some ((i + j : Nat) : Int) := by
  unfold ints
  rw [List.getElem?_map, List.getElem?_range' h]
  simp
theorem ints_succ (i n : Nat) : ints i (n + 1) = (i : Int) :: ints (i + 1) n := by simp [ints, List.range'_succ]
theorem lnF_whos : ∀ (bs : List Bool) (i : Nat), (lnF bs i).map One.who = ints i bs.length
  | [], i => rfl
  | b :: bs, i => by rw [List.length_cons, ints_succ, ← lnF_whos bs (i + 1)]; rfl
/-- Readers hold: all readers up to the next writer come in. -/
theorem pumpR : ∀ (bs : List Bool) (i : Nat) (H : List One), H ≠ [] → (∀ h ∈ H, h.mode = 3 ∧ h.who < i) →
    pump H (lnF bs i) = (ints i (bs.takeWhile (fun b => !b)).length, ⟨H ++ lnF (bs.takeWhile (fun b => !b)) i, lnF (bs.dropWhile (fun b => !b)) (i + (bs.takeWhile (fun b => !b)).length)⟩)
  | [], i, H, hne, hH => by simp [lnF, pump, ints]
  | true :: bs, i, H, hne, hH => by
    have hf : (Lk.mk H []).fits ⟨(i : Int), 5⟩ = false := by
      obtain ⟨h, hh⟩ := List.exists_mem_of_ne_nil _ hne
      obtain ⟨h1, h2⟩ := hH h hh
      exact Lk.unfit_of (y := h) hh (by show h.who ≠ (i : Int); omega) (by show fitsM 5 h.mode = false; rw [h1]; exact fits53)
    simp only [lnF, if_true]
    rw [pump, if_neg (by rw [hf]; exact Bool.false_ne_true)]
    simp [lnF, ints]
  | false :: bs, i, H, hne, hH => by
    have hf : (Lk.mk H []).fits ⟨(i : Int), 3⟩ = true := Lk.fits_iff.2 (fun h hh hw => by show fitsM 3 h.mode = true; rw [(hH h hh).1]; exact fits33)
    have hg : (Lk.mk H []).grant ⟨(i : Int), 3⟩ = ⟨H ++ [⟨(i : Int), 3⟩], []⟩ := Lk.grant_new (fun y hy => by have := (hH y hy).2; show y.who ≠ (i : Int); omega)
    have ih := pumpR bs (i + 1) (H ++ [⟨(i : Int), 3⟩]) (by simp) (fun h hh => by
      rcases List.mem_append.1 hh with hh | hh
      · have := hH h hh; exact ⟨this.1, by have := this.2; omega⟩
      · rw [List.mem_singleton.1 hh]; exact ⟨rfl, by show (i : Int) < ((i + 1 : Nat) : Int); omega⟩)
    simp only [lnF, Bool.false_eq_true, if_false]
    rw [pump, if_pos hf, hg, ih]
    simp only [List.takeWhile_cons, List.dropWhile_cons, Bool.not_false, if_true, List.length_cons, ints_succ, lnF, Bool.false_eq_true, if_false, List.append_assoc, List.singleton_append]
    rw [show i + 1 + (List.takeWhile (fun b => !b) bs).length = i + ((List.takeWhile (fun b => !b) bs).length + 1) by omega]
theorem pumpW (bs : List Bool) (i : Nat) : pump [⟨(i : Int), 5⟩] (lnF bs (i + 1)) = ([], ⟨[⟨(i : Int), 5⟩], lnF bs (i + 1)⟩) := by
  cases bs with
  | nil => rfl
  | cons b bs =>
    have hf : (Lk.mk [⟨(i : Int), 5⟩] []).fits ⟨((i + 1 : Nat) : Int), if b = true then 5 else 3⟩ = false := by
      refine Lk.unfit_of (y := ⟨(i : Int), 5⟩) (List.mem_singleton_self _) (by show (i : Int) ≠ ((i + 1 : Nat) : Int); omega) ?_
      show fitsM (if b = true then 5 else 3) 5 = false
      split
      · exact fits55
      · exact fits35
    simp only [lnF]
    rw [pump, if_neg (by rw [hf]; exact Bool.false_ne_true)]
/-- How many come in when nobody holds. -/
def grpN : List Bool → Nat
  | [] => 0
  | true :: _ => 1
  | false :: bs => (bs.takeWhile (fun b => !b)).length + 1
theorem fits_nil (x : One) : (Lk.mk [] []).fits x = true := rfl
theorem grant_nil (x : One) : (Lk.mk [] []).grant x = ⟨[x], []⟩ := Lk.grant_new (fun y hy => by cases hy)
theorem takeWhile_take {α : Type} (p : α → Bool) : ∀ l : List α, l.takeWhile p = l.take (l.takeWhile p).length
  | [] => rfl
  | x :: l => by
    rw [List.takeWhile_cons]
    split
    · rw [List.length_cons, List.take_succ_cons, ← takeWhile_take p l]
    · rfl
theorem dropWhile_drop {α : Type} (p : α → Bool) : ∀ l : List α, l.dropWhile p = l.drop (l.takeWhile p).length
  | [] => rfl
  | x :: l => by
    rw [List.takeWhile_cons, List.dropWhile_cons]
    split
    · rw [List.length_cons, List.drop_succ_cons, ← dropWhile_drop p l]
    · rfl
theorem pumpN (bs : List Bool) (i : Nat) : pump [] (lnF bs i) = (ints i (grpN bs), ⟨lnF (bs.take (grpN bs)) i, lnF (bs.drop (grpN bs)) (i + grpN bs)⟩) := by
  cases bs with
  | nil => simp [lnF, pump, grpN, ints]
  | cons b bs =>
    cases b with
    | true =>
      simp only [lnF, if_true, grpN]
      rw [pump, if_pos (fits_nil _), grant_nil, pumpW]
      simp [ints, lnF]
    | false =>
      simp only [lnF, Bool.false_eq_true, if_false, grpN]
      rw [pump, if_pos (fits_nil _), grant_nil, pumpR bs (i + 1) _ (by simp) (fun h hh => by rw [List.mem_singleton.1 hh]; exact ⟨rfl, by show (i : Int) < ((i + 1 : Nat) : Int); omega⟩)]
      simp only [ints_succ, List.take_succ_cons, List.drop_succ_cons, lnF, Bool.false_eq_true, if_false, List.singleton_append]
      rw [← takeWhile_take, ← dropWhile_drop, show i + 1 + (List.takeWhile (fun b => !b) bs).length = i + ((List.takeWhile (fun b => !b) bs).length + 1) by omega]
theorem grpN_le (bs : List Bool) : grpN bs ≤ bs.length := by
  cases bs with
  | nil => exact Nat.le_refl _
  | cons b bs =>
    cases b with
    | true => simp [grpN]
    | false =>
      have := (List.takeWhile_prefix (fun b : Bool => !b) (l := bs)).length_le
      simp only [grpN, List.length_cons]
      omega
theorem grpN_pos {bs : List Bool} (h : bs ≠ []) : 0 < grpN bs := by
  cases bs with
  | nil => exact absurd rfl h
  | cons b bs => cases b <;> simp [grpN]
/-- Of a group of readers: none is a writer, and the next one is. -/
theorem grpN_read {bs : List Bool} : bs[0]? = some false → (∀ j, j < grpN bs → bs[j]? = some false) ∧ bs[grpN bs]? ≠ some false := by
  cases bs with
  | nil => intro h; cases h
  | cons b bs =>
    cases b with
    | true => intro h; cases h
    | false =>
      intro _
      refine ⟨?_, ?_⟩
      · intro j hj
        cases j with
        | zero => rfl
        | succ j =>
          simp only [grpN] at hj
          rw [List.getElem?_cons_succ]
          have hj : j < (bs.takeWhile (fun b => !b)).length := by omega
          have h1 : (bs.takeWhile (fun b => !b))[j]? = some (bs.takeWhile (fun b => !b))[j] := List.getElem?_eq_getElem hj
          have h2 : (!(bs.takeWhile (fun b => !b))[j]) = true := by
            have h3 := List.all_takeWhile (p := fun b : Bool => !b) (l := bs)
            rw [List.all_eq_true] at h3
            exact h3 _ (List.getElem_mem hj)
          have h4 : bs[j]? = (bs.takeWhile (fun b => !b))[j]? := by
            obtain ⟨t, ht⟩ := List.takeWhile_prefix (fun b : Bool => !b) (l := bs)
            rw [← List.getElem?_append_left (l₂ := t) hj, ht]
          rw [h4, h1]
          simpa using h2
      · simp only [grpN, List.getElem?_cons_succ]
        have hd := dropWhile_drop (fun b : Bool => !b) bs
        intro h
        have h0 : (bs.dropWhile (fun b => !b))[0]? = some false := by rw [hd, List.getElem?_drop]; simpa using h
        have := List.head?_dropWhile_not (fun b : Bool => !b) bs
        rw [List.head?_eq_getElem?, h0] at this
        simp at this
theorem grpN_one {bs : List Bool} (h : bs[0]? = some true) : grpN bs = 1 := by
  cases bs with
  | nil => cases h
  | cons b bs =>
    simp only [List.getElem?_cons_zero, Option.some.injEq] at h
    subst h
    rfl
/-- The lock while the line is served. -/
structure GL (l : List Bool) (k : Lk) (i : Nat) : Prop where
  le : i ≤ l.length
  line : k.line = lnF (l.drop i) i
  nd : (k.hold.map One.who).Nodup
  far : ∀ h ∈ k.hold, ∀ x ∈ k.line, x.who ≠ h.who
  read : 2 ≤ k.hold.length → (∀ h ∈ k.hold, h.mode = 3) ∧ (l.drop i)[0]? ≠ some false
theorem GL.drop_one {l : List Bool} {h h2 : One} {t ln : List One} {i : Nat} (g : GL l ⟨h :: h2 :: t, ln⟩ i) : (Lk.mk (h :: h2 :: t) ln).drop h.who = ([], ⟨h2 :: t, ln⟩) ∧ GL l ⟨h2 :: t, ln⟩ i := by
  have hnd := List.nodup_cons.1 g.nd
  have hr := g.read (by show 2 ≤ (h :: h2 :: t).length; simp)
  have hw : (Lk.mk (h :: h2 :: t) ln).without h.who = ⟨h2 :: t, ln⟩ := by
    unfold Lk.without
    have e1 : (h :: h2 :: t).filter (fun x => !decide (x.who = h.who)) = h2 :: t := by
      rw [List.filter_cons, if_neg (by simp)]
      exact filter_no (fun x hx hxw => hnd.1 (List.mem_map.2 ⟨x, hx, hxw⟩))
    have e2 : ln.filter (fun x => !decide (x.who = h.who)) = ln := filter_no (fun x hx => g.far h List.mem_cons_self x hx)
    show Lk.mk _ _ = _
    rw [e1, e2]
  refine ⟨?_, ⟨g.le, g.line, hnd.2, fun y hy x hx => g.far y (List.mem_cons_of_mem _ hy) x hx, fun _ => ⟨fun y hy => hr.1 y (List.mem_cons_of_mem _ hy), hr.2⟩⟩⟩
  unfold Lk.drop
  rw [hw]
  refine pump_stop (k := ⟨h2 :: t, ln⟩) (fun x hx => ?_)
  have hx : ln[0]? = some x := hx
  have hl : ln = lnF (l.drop i) i := g.line
  rw [hl] at hx
  cases hb : l.drop i with
  | nil => rw [hb] at hx; cases hx
  | cons b bs =>
    rw [hb] at hx
    have hbt : b = true := by
      have := hr.2
      rw [hb] at this
      cases b with
      | true => rfl
      | false => exact absurd rfl this
    subst hbt
    simp only [lnF, if_true, List.getElem?_cons_zero, Option.some.injEq] at hx
    subst hx
    have hmem : (⟨(i : Int), 5⟩ : One) ∈ ln := by rw [hl, hb]; exact List.mem_cons_self
    refine Lk.unfit_of (y := h2) List.mem_cons_self (fun h => g.far h2 (by simp) _ hmem h.symm) ?_
    show fitsM 5 h2.mode = false
    rw [hr.1 h2 (by simp)]
    exact fits53
theorem GL.drop_last {l : List Bool} {h : One} {ln : List One} {i : Nat} (g : GL l ⟨[h], ln⟩ i) : (Lk.mk [h] ln).drop h.who = (ints i (grpN (l.drop i)), ⟨lnF ((l.drop i).take (grpN (l.drop i))) i, lnF (l.drop (i + grpN (l.drop i))) (i + grpN (l.drop i))⟩) ∧ GL l ⟨lnF ((l.drop i).take (grpN (l.drop i))) i, lnF (l.drop (i + grpN (l.drop i))) (i + grpN (l.drop i))⟩ (i + grpN (l.drop i)) := by
  have hln : ln = lnF (l.drop i) i := g.line
  have hw : (Lk.mk [h] ln).without h.who = ⟨[], ln⟩ := by
    unfold Lk.without
    have e2 : ln.filter (fun x => !decide (x.who = h.who)) = ln := filter_no (fun x hx => g.far h List.mem_cons_self x hx)
    show Lk.mk _ _ = _
    rw [e2]
    simp
  have hle := grpN_le (l.drop i)
  have hgle := g.le
  rw [List.length_drop] at hle
  have hlen : ((l.drop i).take (grpN (l.drop i))).length = grpN (l.drop i) := by rw [List.length_take, List.length_drop]; omega
  refine ⟨?_, ⟨by omega, rfl, ?_, ?_, ?_⟩⟩
  · unfold Lk.drop
    rw [hw, hln]
    show pump [] (lnF (l.drop i) i) = _
    rw [pumpN, List.drop_drop]
  · rw [lnF_whos]
    unfold ints
    unfold List.Nodup
    rw [List.pairwise_map]
    exact (List.nodup_range' : (List.range' i _).Nodup).imp (fun h h2 => h (by omega))
  · intro a ha x hx
    obtain ⟨j, h1, h2, h3⟩ := lnF_mem ha
    obtain ⟨j', h1', h2', h3'⟩ := lnF_mem hx
    rw [hlen] at h2
    rw [h3, h3']
    omega
  · intro h2
    have h2 : 2 ≤ (lnF ((l.drop i).take (grpN (l.drop i))) i).length := h2
    rw [lnF_len, hlen] at h2
    have h0 : (l.drop i)[0]? = some false := by
      cases hb : (l.drop i)[0]? with
      | none => rw [List.getElem?_eq_none_iff, Nat.le_zero, List.length_eq_zero_iff] at hb; rw [hb] at h2; simp [grpN] at h2
      | some b =>
        cases b with
        | false => rfl
        | true => rw [grpN_one hb] at h2; omega
    have hr := grpN_read h0
    refine ⟨?_, ?_⟩
    · intro a ha
      have key : ∀ (bs : List Bool) (i : Nat), (∀ b ∈ bs, b = false) → ∀ a ∈ lnF bs i, a.mode = 3 := by
        intro bs
        induction bs with
        | nil => intro i _ a ha; cases ha
        | cons b bs ih =>
          intro i hb a ha
          rcases List.mem_cons.1 ha with rfl | ha
          · show (if b = true then (5 : Int) else 3) = 3
            rw [hb b List.mem_cons_self]; rfl
          · exact ih (i + 1) (fun c hc => hb c (List.mem_cons_of_mem _ hc)) a ha
      refine key _ _ (fun b hb => ?_) a ha
      obtain ⟨j, hj⟩ := List.mem_iff_getElem?.1 hb
      have hjl := (List.getElem?_eq_some_iff.1 hj).1
      rw [hlen] at hjl
      rw [List.getElem?_take_of_lt hjl, hr.1 j hjl] at hj
      exact (Option.some.inj hj).symm
    · rw [List.getElem?_drop]
      have := hr.2
      rw [List.getElem?_drop] at this
      exact this
end Go.Proofs.YtcpkcjabmookmaaGreat.L
