/- Plain: what holds of a lock at any time: all holders' modes fit, the first of the line does not fit them all. -/
import Derived.Test.YtcpkcjabmookmaaGreatPG
namespace Go.Proofs.YtcpkcjabmookmaaGreat.L
open Go Go.Proofs
set_option linter.unusedSimpArgs false
set_option linter.unusedVariables false

/-! ### Modes -/
theorem modeOf_idem (m : Int) : modeOf (modeOf m) = modeOf m := by
  have := modeOf_rng m
  show (if modeOf m < 0 ∨ 5 < modeOf m then 5 else modeOf m) = modeOf m
  rw [if_neg (by omega)]
theorem modeOf_fin (m : Int) : ∃ i : Fin 6, modeOf m = (i.1 : Int) := by
  have := modeOf_rng m
  exact ⟨⟨(modeOf m).toNat, by omega⟩, by show modeOf m = ((modeOf m).toNat : Int); omega⟩
theorem fitsM_mode (a b : Int) : fitsM a b = fitsM (modeOf a) (modeOf b) := by unfold fitsM; rw [modeOf_idem, modeOf_idem]
theorem coversM_mode (a b : Int) : coversM a b = coversM (modeOf a) (modeOf b) := by unfold coversM; rw [modeOf_idem, modeOf_idem]
theorem coversM_right (a b : Int) : coversM a b = coversM a (modeOf b) := by unfold coversM; rw [modeOf_idem]
theorem joinF_mode (a b : Int) : ∀ (n i : Nat), joinF a b i n = joinF (modeOf a) (modeOf b) i n
  | 0, _ => rfl
  | n + 1, i => by rw [joinF_succ, joinF_succ, joinF_mode a b n, coversM_right _ a, coversM_right _ b]
theorem joinM_mode (a b : Int) : joinM a b = joinM (modeOf a) (modeOf b) := joinF_mode a b 6 0
theorem fitsM_tabS : ∀ a b : Fin 6, fitsM a.1 b.1 = fitsM b.1 a.1 := by decide +kernel
theorem fitsM_symm (a b : Int) : fitsM a b = fitsM b a := by
  obtain ⟨i, hi⟩ := modeOf_fin a
  obtain ⟨j, hj⟩ := modeOf_fin b
  rw [fitsM_mode a, fitsM_mode b, hi, hj]
  exact fitsM_tabS i j
theorem joinM_tabC : ∀ a b : Fin 6, coversM (joinM a.1 b.1) a.1 = true ∧ (b.1 ≠ 0 → joinM a.1 b.1 ≠ 0) := by decide +kernel
theorem joinM_covers (a b : Int) : coversM (joinM a b) a = true := by
  obtain ⟨i, hi⟩ := modeOf_fin a
  obtain ⟨j, hj⟩ := modeOf_fin b
  rw [coversM_right _ a, joinM_mode, hi, hj]
  exact (joinM_tabC i j).1
theorem joinM_nz {a b : Int} (h : modeOf b ≠ 0) : joinM a b ≠ 0 := by
  obtain ⟨i, hi⟩ := modeOf_fin a
  obtain ⟨j, hj⟩ := modeOf_fin b
  rw [joinM_mode, hi, hj]
  exact (joinM_tabC i j).2 (fun h' => h (by rw [hj, h']; rfl))
theorem fitsM_tabM : ∀ c a z : Fin 6, coversM c.1 a.1 = true → fitsM z.1 c.1 = true → fitsM z.1 a.1 = true := by decide +kernel
theorem fitsM_mono {c a z : Int} (h : coversM c a = true) (hf : fitsM z c = true) : fitsM z a = true := by
  obtain ⟨i, hi⟩ := modeOf_fin c
  obtain ⟨j, hj⟩ := modeOf_fin a
  obtain ⟨k, hk⟩ := modeOf_fin z
  rw [coversM_mode, hi, hj] at h
  rw [fitsM_mode, hk, hi] at hf
  rw [fitsM_mode, hk, hj]
  exact fitsM_tabM i j k h hf

/-! ### What holds at any time -/
theorem Lk.fits_iff {k : Lk} {x : One} : k.fits x = true ↔ ∀ h ∈ k.hold, h.who ≠ x.who → fitsM x.mode h.mode = true := by
  unfold Lk.fits
  simp only [Bool.not_eq_true', List.any_eq_false, Bool.and_eq_true, decide_eq_true_eq, not_and, Bool.not_eq_false']
  constructor
  · intro h y hy hw; have := h y hy hw; simpa using this
  · intro h y hy hw; have := h y hy hw; simpa using this
theorem Lk.unfit {k : Lk} {x : One} (h : k.fits x = false) : ∃ y ∈ k.hold, y.who ≠ x.who ∧ fitsM x.mode y.mode = false := by
  unfold Lk.fits at h
  simp only [Bool.not_eq_false', List.any_eq_true, Bool.and_eq_true, decide_eq_true_eq] at h
  obtain ⟨y, hy, hw, hf⟩ := h
  exact ⟨y, hy, hw, by simpa using hf⟩
theorem Lk.unfit_of {k : Lk} {x y : One} (hy : y ∈ k.hold) (hw : y.who ≠ x.who) (hf : fitsM x.mode y.mode = false) : k.fits x = false := by
  cases h : k.fits x with
  | false => rfl
  | true => rw [Lk.fits_iff.1 h y hy hw] at hf; cases hf
structure Lk.Inv (k : Lk) : Prop where
  ok : k.Ok
  pair : ∀ a ∈ k.hold, ∀ b ∈ k.hold, a.who ≠ b.who → fitsM a.mode b.mode = true
  nz : ∀ x ∈ k.line, x.mode ≠ 0
  head : ∀ x, k.line[0]? = some x → k.fits x = false
theorem Lk.grant_mem {k : Lk} {x y : One} (h : y ∈ (k.grant x).hold) : y = x ∨ y ∈ k.hold := by
  unfold Lk.grant at h
  split at h
  · have h : y ∈ k.hold.set _ x := h
    rcases List.mem_or_eq_of_mem_set h with h | h
    · exact .inr h
    · exact .inl h
  · have h : y ∈ k.hold ++ [x] := h
    rcases List.mem_append.1 h with h | h
    · exact .inr h
    · exact .inl (List.mem_singleton.1 h)
theorem Lk.grant_self (k : Lk) (x : One) : x ∈ (k.grant x).hold := by
  unfold Lk.grant
  split
  · rename_i h
    obtain ⟨i, el, he, hi, hw⟩ := at1_some h
    show x ∈ k.hold.set _ x
    rw [hi, Int.toNat_natCast]
    exact List.mem_set (List.getElem?_eq_some_iff.1 he).1 x
  · exact List.mem_append_right _ (List.mem_singleton_self x)
theorem Lk.grant_keep {k : Lk} {x y : One} (h : y ∈ k.hold) (hw : y.who ≠ x.who) : y ∈ (k.grant x).hold := by
  unfold Lk.grant
  split
  · rename_i hh
    obtain ⟨i, el, he, hi, hwe⟩ := at1_some hh
    show y ∈ k.hold.set _ x
    rw [hi, Int.toNat_natCast]
    obtain ⟨j, hj, rfl⟩ := List.mem_iff_getElem.1 h
    refine List.mem_iff_getElem?.2 ⟨j, ?_⟩
    rw [List.getElem?_set, if_neg]
    · exact List.getElem?_eq_getElem hj
    · intro hij
      subst hij
      have := (List.getElem?_eq_some_iff.1 he).2
      rw [this] at hw
      exact hw hwe
  · exact List.mem_append_left _ h
theorem Lk.grant_pair {k : Lk} (hp : ∀ a ∈ k.hold, ∀ b ∈ k.hold, a.who ≠ b.who → fitsM a.mode b.mode = true) {x : One} (hf : k.fits x = true) : ∀ a ∈ (k.grant x).hold, ∀ b ∈ (k.grant x).hold, a.who ≠ b.who → fitsM a.mode b.mode = true := by
  intro a ha b hb hab
  rcases Lk.grant_mem ha with ea | ha'
  · subst ea
    rcases Lk.grant_mem hb with eb | hb'
    · exact absurd (congrArg One.who eb.symm) hab
    · exact Lk.fits_iff.1 hf b hb' (Ne.symm hab)
  · rcases Lk.grant_mem hb with eb | hb'
    · subst eb
      rw [fitsM_symm]; exact Lk.fits_iff.1 hf a ha' hab
    · exact hp a ha' b hb' hab
theorem Lk.wait_head {k : Lk} {x y : One} (h : (k.wait x).line[0]? = some y) : y = x ∧ k.waitAt x.who = 0 ∨ k.line[0]? = some y := by
  have h : (k.line.take (k.waitAt x.who) ++ [x] ++ k.line.drop (k.waitAt x.who))[0]? = some y := h
  cases hl : k.waitAt x.who with
  | zero =>
    rw [hl] at h
    simp only [List.take_zero, List.nil_append, List.cons_append, List.getElem?_cons_zero, Option.some.injEq] at h
    exact .inl ⟨h.symm, rfl⟩
  | succ n =>
    rw [hl] at h
    have hle := k.waitAt_le x.who
    rw [hl] at hle
    right
    cases hk : k.line with
    | nil => rw [hk] at hle; simp at hle
    | cons z l => rw [hk] at h; simpa using h
theorem Lk.wait_mem {k : Lk} {x y : One} (h : y ∈ (k.wait x).line) : y = x ∨ y ∈ k.line := by
  have h : y ∈ k.line.take (k.waitAt x.who) ++ [x] ++ k.line.drop (k.waitAt x.who) := h
  rcases List.mem_append.1 h with h | h
  · rcases List.mem_append.1 h with h | h
    · exact .inr (List.mem_of_mem_take h)
    · exact .inl (List.mem_singleton.1 h)
  · exact .inr (List.mem_of_mem_drop h)
theorem Lk.ask_inv {k : Lk} (h : k.Inv) (who m : Int) : (k.ask who m).2.Inv := by
  have hok := h.ok.ask who m
  unfold Lk.ask at hok ⊢
  split
  · exact h
  · rename_i hm
    rw [if_neg hm] at hok
    split
    · exact h
    · rename_i hl
      rw [if_neg hl] at hok
      split
      · rename_i hh
        rw [if_pos hh] at hok
        split
        · exact h
        · rename_i hc
          rw [if_neg hc] at hok
          obtain ⟨i, el, he, hi, hwe⟩ := at1_some hh
          have hd : k.hold.getD (at1 k.hold who).toNat ⟨0, 0⟩ = el := by rw [hi, Int.toNat_natCast]; exact getD_at he
          rw [hd] at hok ⊢
          split
          · rename_i hf
            rw [if_pos hf] at hok
            refine ⟨hok, Lk.grant_pair h.pair hf, by rw [Lk.grant_same]; exact h.nz, ?_⟩
            intro y hy
            rw [Lk.grant_same] at hy
            obtain ⟨z, hz, hzw, hzf⟩ := Lk.unfit (h.head y hy)
            by_cases hzz : z.who = who
            · -- the one that was turned
              have hzel : z = el := by
                obtain ⟨j, hj, rfl⟩ := List.mem_iff_getElem.1 hz
                have h1 : (k.hold.map One.who)[i]? = some who := by rw [List.getElem?_map, he, ← hwe]; rfl
                have h2 : (k.hold.map One.who)[j]? = some who := by rw [List.getElem?_map, List.getElem?_eq_getElem hj, ← hzz]; rfl
                have hil : i < (k.hold.map One.who).length := by rw [List.length_map]; exact (List.getElem?_eq_some_iff.1 he).1
                have := (List.getElem?_inj hil h.ok.hn).1 (h1.trans h2.symm)
                subst this
                exact (List.getElem?_eq_some_iff.1 he).2
              subst hzel
              refine Lk.unfit_of (k.grant_self _) (by rw [← hzz]; exact hzw) ?_
              cases hff : fitsM y.mode (joinM z.mode (modeOf m)) with
              | false => rfl
              | true => rw [fitsM_mono (joinM_covers _ _) hff] at hzf; cases hzf
            · exact Lk.unfit_of (Lk.grant_keep hz hzz) hzw hzf
          · rename_i hf
            rw [if_neg hf] at hok
            refine ⟨hok, h.pair, ?_, ?_⟩
            · intro y hy
              rcases Lk.wait_mem hy with rfl | hy
              · exact joinM_nz (by rw [modeOf_idem]; exact hm)
              · exact h.nz y hy
            · intro y hy
              rcases Lk.wait_head hy with ⟨rfl, _⟩ | hy
              · exact (Bool.not_eq_true _).mp hf
              · exact h.head y hy
      · rename_i hh
        rw [if_neg hh] at hok
        split
        · rename_i hf
          rw [if_pos hf] at hok
          simp only [Bool.and_eq_true, decide_eq_true_eq] at hf
          refine ⟨hok, Lk.grant_pair h.pair hf.1, by rw [Lk.grant_same]; exact h.nz, ?_⟩
          intro y hy
          rw [Lk.grant_same, List.length_eq_zero_iff.1 hf.2] at hy
          cases hy
        · rename_i hf
          rw [if_neg hf] at hok
          refine ⟨hok, h.pair, ?_, ?_⟩
          · intro y hy
            rcases Lk.wait_mem hy with rfl | hy
            · exact hm
            · exact h.nz y hy
          · intro y hy
            rcases Lk.wait_head hy with ⟨rfl, hw⟩ | hy
            · have hle : k.line.length = 0 := by
                unfold Lk.waitAt at hw
                rw [if_neg (by unfold Lk.has; rw [decide_eq_false hh]; exact Bool.false_ne_true)] at hw
                exact hw
              rw [hle] at hf
              show k.fits _ = false
              simpa using hf
            · exact h.head y hy
theorem pump_inv : ∀ (l h : List One), (Lk.mk h l).Ok → (∀ a ∈ h, ∀ b ∈ h, a.who ≠ b.who → fitsM a.mode b.mode = true) → (∀ x ∈ l, x.mode ≠ 0) → (pump h l).2.Inv
  | [], h, ok, hp, nz => ⟨ok, hp, nz, fun x hx => by cases hx⟩
  | x :: l, h, ok, hp, nz => by
    have hok := pump_ok (x :: l) h ok
    unfold pump at hok ⊢
    split
    · rename_i hf
      refine pump_inv l _ ?_ (Lk.grant_pair (k := ⟨h, []⟩) hp hf) (fun y hy => nz y (List.mem_cons_of_mem _ hy))
      have h1 := (Lk.Ok.mk (k := ⟨h, l⟩) ok.hn (List.nodup_cons.1 ok.ln).2).grant x
      rw [Lk.grant_line] at h1
      exact h1
    · rename_i hf
      exact ⟨ok, hp, nz, fun y hy => by cases hy; exact (Bool.not_eq_true _).mp hf⟩
theorem Lk.drop_inv {k : Lk} (h : k.Inv) (who : Int) : (k.drop who).2.Inv := by
  refine pump_inv _ _ ⟨?_, ?_⟩ (fun a ha b hb => h.pair a (List.mem_filter.1 ha).1 b (List.mem_filter.1 hb).1) (fun x hx => h.nz x (List.mem_filter.1 hx).1)
  · exact List.Nodup.sublist (List.Sublist.map _ List.filter_sublist) h.ok.hn
  · exact List.Nodup.sublist (List.Sublist.map _ List.filter_sublist) h.ok.ln
theorem Lk.inv_nil : (Lk.mk [] []).Inv := ⟨Lk.ok_nil, (fun a ha => by cases ha), (fun x hx => by cases hx), (fun x hx => by cases hx)⟩

/-! ### What is told -/
theorem Lk.holds_whos (k : Lk) : k.holds.map Hold.who = k.hold.map One.who ++ (k.line.filter (fun w => !k.has w.who)).map One.who := by
  unfold Lk.holds
  rw [List.map_append, List.map_map, List.map_map]
  rfl
theorem Lk.holds_nodup {k : Lk} (h : k.Ok) : (k.holds.map Hold.who).Nodup := by
  rw [Lk.holds_whos, List.nodup_append]
  refine ⟨h.hn, List.Nodup.sublist (List.Sublist.map _ List.filter_sublist) h.ln, ?_⟩
  intro a ha b hb hab
  subst hab
  obtain ⟨y, hy, hyw⟩ := List.mem_map.1 hb
  have hn := (List.mem_filter.1 hy).2
  have : k.has y.who = true := decide_eq_true (at1_nonneg.2 (by rw [hyw]; exact ha))
  rw [this] at hn
  cases hn
theorem Lk.holds_mem {k : Lk} {x : Hold} (h : x ∈ k.holds) : (∃ y ∈ k.hold, x = k.hold1 y) ∨ (∃ y ∈ k.line, x = y.wait1) := by
  unfold Lk.holds at h
  rcases List.mem_append.1 h with h | h
  · obtain ⟨y, hy, rfl⟩ := List.mem_map.1 h; exact .inl ⟨y, hy, rfl⟩
  · obtain ⟨y, hy, rfl⟩ := List.mem_map.1 h; exact .inr ⟨y, (List.mem_filter.1 hy).1, rfl⟩
theorem Lk.holds_pair {k : Lk} (h : k.Inv) {a b : Nat} {x y : Hold} (hab : a ≠ b) (hx : k.holds[a]? = some x) (hy : k.holds[b]? = some y) : x.who ≠ y.who ∧ (x.mode ≠ 0 → y.mode ≠ 0 → fitsM x.mode y.mode = true) := by
  have hne : x.who ≠ y.who := by
    intro hw
    have h1 : (k.holds.map Hold.who)[a]? = some x.who := by rw [List.getElem?_map, hx]; rfl
    have h2 : (k.holds.map Hold.who)[b]? = some x.who := by rw [List.getElem?_map, hy, hw]; rfl
    have hl : a < (k.holds.map Hold.who).length := by rw [List.length_map]; exact (List.getElem?_eq_some_iff.1 hx).1
    exact hab ((List.getElem?_inj hl (Lk.holds_nodup h.ok)).1 (h1.trans h2.symm))
  refine ⟨hne, fun hxm hym => ?_⟩
  rcases Lk.holds_mem (List.mem_of_getElem? hx) with ⟨x', hx', rfl⟩ | ⟨x', hx', rfl⟩
  · rcases Lk.holds_mem (List.mem_of_getElem? hy) with ⟨y', hy', rfl⟩ | ⟨y', hy', rfl⟩
    · exact h.pair x' hx' y' hy' hne
    · exact absurd rfl hym
  · exact absurd rfl hxm
theorem Lk.waits_some {k : Lk} (h : k.Inv) {who : Int} (hm : who ∈ k.line.map One.who) : (k.waits who).length ≠ 0 := by
  have h0 := at1_nonneg.2 hm
  obtain ⟨i, el, he, hi, hw⟩ := at1_some h0
  have hR : k.waitsR who ≠ [] := by
    unfold Lk.waitsR
    rw [if_neg (by omega), hi, Int.toNat_natCast, getD_at he]
    cases i with
    | zero =>
      obtain ⟨y, hy, hyw, hyf⟩ := Lk.unfit (h.head el he)
      have : y.who ∈ k.waitsH who el.mode k.hold := by
        unfold Lk.waitsH
        refine List.mem_map.2 ⟨y, List.mem_filter.2 ⟨hy, ?_⟩, rfl⟩
        rw [hw] at hyw
        simp [hyw, hyf]
      intro hz
      rw [List.append_eq_nil_iff] at hz
      rw [hz.1] at this
      cases this
    | succ n =>
      intro hz
      rw [List.append_eq_nil_iff] at hz
      have := congrArg List.length hz.2
      rw [List.length_map, List.length_take] at this
      have := (List.getElem?_eq_some_iff.1 he).1
      simp only [List.length_nil] at *
      omega
  intro hz
  obtain ⟨x, hx⟩ := List.exists_mem_of_ne_nil _ hR
  have : x ∈ k.waits who := by
    unfold Lk.waits
    rw [compactL_mem, List.mem_mergeSort]
    exact hx
  rw [List.length_eq_zero_iff.1 hz] at this
  cases this
theorem wantsIn_mem {l : List One} {who : Int} (h : wantsIn l who ≠ 0) : who ∈ l.map One.who := by
  unfold wantsIn at h
  split at h
  · rename_i h0; exact at1_nonneg.1 h0
  · exact absurd rfl h
theorem Lk.holds_wants {k : Lk} (h : k.Inv) {x : Hold} (hx : x ∈ k.holds) (hw : x.wants ≠ 0) : (k.waits x.who).length ≠ 0 := by
  rcases Lk.holds_mem hx with ⟨x', hx', rfl⟩ | ⟨x', hx', rfl⟩
  · exact Lk.waits_some h (wantsIn_mem hw)
  · exact Lk.waits_some h (List.mem_map.2 ⟨x', hx', rfl⟩)
/-- What one has is granted again. -/
theorem Lk.ask_again {k : Lk} (h : k.Inv) {x : Hold} (hx : x ∈ k.holds) (hw : x.wants = 0) {m : Int} (hc : coversM x.mode m = true) : k.ask x.who m = (true, k) := by
  unfold Lk.ask
  split
  · rfl
  · rename_i hm
    rcases Lk.holds_mem hx with ⟨y, hy, rfl⟩ | ⟨y, hy, rfl⟩
    · have hnl : ¬ 0 ≤ at1 k.line y.who := by
        intro h0
        obtain ⟨i, el, he, hi, hwe⟩ := at1_some h0
        have hw : wantsIn k.line y.who = 0 := hw
        unfold wantsIn at hw
        rw [if_pos h0, hi, Int.toNat_natCast, getD_at he] at hw
        exact h.nz el (List.mem_of_getElem? he) hw
      have hw' : (k.hold1 y).who = y.who := rfl
      rw [hw', if_neg hnl]
      have h0 : 0 ≤ at1 k.hold y.who := at1_nonneg.2 (List.mem_map.2 ⟨y, hy, rfl⟩)
      rw [if_pos h0]
      obtain ⟨i, el, he, hi, hwe⟩ := at1_some h0
      rw [hi, Int.toNat_natCast, getD_at he]
      have hel : el = y := by
        obtain ⟨j, hj, rfl⟩ := List.mem_iff_getElem.1 hy
        have h1 : (k.hold.map One.who)[i]? = some el.who := by rw [List.getElem?_map, he]; rfl
        have h2 : (k.hold.map One.who)[j]? = some el.who := by rw [List.getElem?_map, List.getElem?_eq_getElem hj, hwe]; rfl
        have hil : i < (k.hold.map One.who).length := by rw [List.length_map]; exact (List.getElem?_eq_some_iff.1 he).1
        have := (List.getElem?_inj hil h.ok.hn).1 (h1.trans h2.symm)
        subst this
        exact (List.getElem?_eq_some_iff.1 he).2.symm
      subst hel
      have hc : coversM el.mode m = true := hc
      rw [if_pos (by rw [coversM_right] at hc; exact hc)]
    · exact absurd hw (h.nz y hy)
theorem Lk.ask_none (k : Lk) (who : Int) : k.ask who 0 = (true, k) := by unfold Lk.ask; rw [if_pos (by rfl)]
end Go.Proofs.YtcpkcjabmookmaaGreat.L
