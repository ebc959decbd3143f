/- Plain: readers put together; changes written and read. No program in sight. -/
import Derived.Test.YtlellgnklohclaaE1
import Derived.Test.YtlellgnklohclaaT1
import Derived.Test.YtlellgnklohclaaBytes4
namespace Go.Proofs.Ytlellgnklohclaa.L
open Go

/-! ### Readers put together -/
def RdM (α : Type) := Rd → α × Rd
def RdM.bind {α β : Type} (r : RdM α) (k : α → RdM β) : RdM β := fun s => k (r s).1 (r s).2
def RdM.ret {α : Type} (a : α) : RdM α := fun s => (a, s)
def Sticky {α : Type} (r : RdM α) : Prop := ∀ s : Rd, s.f = true → (r s).2.f = true
def PreOK {α : Type} (r : RdM α) : Prop := Sticky r ∧ ∀ s t, Pre s t → (r t).2.f = false → Pre (r s).2 (r t).2 ∧ ((r s).2.f = true ∨ (r s).1 = (r t).1)
def AlikeOK {α : Type} (r r' : RdM α) : Prop := ∀ s t, Alike s t → Alike (r s).2 (r' t).2 ∧ (r s).1 = (r' t).1
theorem PreOK.ret {α : Type} (a : α) : PreOK (RdM.ret a) := ⟨fun _ h => h, fun _ _ h _ => ⟨h, .inr rfl⟩⟩
theorem PreOK.bind {α β : Type} {r : RdM α} {k : α → RdM β} (h : PreOK r) (hk : ∀ a, PreOK (k a)) : PreOK (RdM.bind r k) := by
  refine ⟨fun s hs => (hk _).1 _ (h.1 s hs), fun s t hp ht => ?_⟩
  have ht : (k (r t).1 (r t).2).2.f = false := ht
  have h1 : (r t).2.f = false := by
    cases hf : (r t).2.f with
    | false => rfl
    | true => rw [(hk _).1 _ hf] at ht; cases ht
  obtain ⟨p1, p2⟩ := h.2 s t hp h1
  show Pre (k (r s).1 (r s).2).2 (k (r t).1 (r t).2).2 ∧ _
  rcases p2 with hf | he
  · have : (k (r s).1 (r s).2).2.f = true := (hk _).1 _ hf
    exact ⟨.inl this, .inl this⟩
  · have := (hk (r t).1).2 _ _ p1 ht
    rw [← he] at this
    refine ⟨by rw [← he]; exact this.1, ?_⟩
    rcases this.2 with h | h
    · exact .inl h
    · exact .inr (by show (k (r s).1 (r s).2).1 = (k (r t).1 (r t).2).1; rw [← he]; exact h)
theorem AlikeOK.ret {α : Type} (a : α) : AlikeOK (RdM.ret a) (RdM.ret a) := fun _ _ h => ⟨h, rfl⟩
theorem AlikeOK.bind {α β : Type} {r r' : RdM α} {k k' : α → RdM β} (h : AlikeOK r r') (hk : ∀ a, AlikeOK (k a) (k' a)) : AlikeOK (RdM.bind r k) (RdM.bind r' k') := fun s t ha => by
  obtain ⟨h1, h2⟩ := h s t ha
  have := hk (r s).1 _ _ h1
  rw [h2] at this
  show Alike (k (r s).1 (r s).2).2 (k' (r' t).1 (r' t).2).2 ∧ (k (r s).1 (r s).2).1 = (k' (r' t).1 (r' t).2).1
  rw [h2]
  exact this
theorem pre_int : PreOK (Rd.int : RdM Int) := ⟨fun s h => by rw [Rd.int_f h]; exact h, fun _ _ h ht => h.int ht⟩
theorem pre_text : PreOK (Rd.text : RdM ByteArray) := ⟨fun s h => by rw [Rd.text_f h]; exact h, fun _ _ h ht => h.text ht⟩
theorem pre_flag : PreOK (Rd.flag : RdM Bool) := ⟨fun s h => by rw [Rd.flag_f h]; exact h, fun _ _ h ht => h.flag ht⟩
theorem alike_int : AlikeOK (Rd.int : RdM Int) (Rd.rint : RdM Int) := fun _ _ h => h.int
theorem alike_text : AlikeOK (Rd.text : RdM ByteArray) (Rd.rtext : RdM ByteArray) := fun _ _ h => h.text
theorem alike_flag : AlikeOK (Rd.flag : RdM Bool) (Rd.rflag : RdM Bool) := fun _ _ h => h.flag
theorem alike_msg : AlikeOK (Rd.msg : RdM Msg) (Rd.rmsg : RdM Msg) := fun _ _ h => h.msg
theorem pre_msgT : PreOK (Rd.msgT : RdM Msg) := by
  have e : (Rd.msgT : RdM Msg) = RdM.bind (Rd.int : RdM Int) fun a => RdM.bind (Rd.int : RdM Int) fun b => RdM.bind (Rd.int : RdM Int) fun c => RdM.bind (Rd.flag : RdM Bool) fun d => RdM.bind (Rd.text : RdM ByteArray) fun e => RdM.bind (Rd.text : RdM ByteArray) fun f => RdM.ret ⟨a, b, c, d, e, f⟩ := rfl
  rw [e]
  exact pre_int.bind fun _ => pre_int.bind fun _ => pre_int.bind fun _ => pre_flag.bind fun _ => pre_text.bind fun _ => pre_text.bind fun _ => .ret _
theorem Rd.msg_snd (s : Rd) : s.msg.2 = s.msgT.2 := by unfold Rd.msg; split <;> rfl
theorem pre_msg : PreOK (Rd.msg : RdM Msg) := by
  refine ⟨fun s h => by rw [Rd.msg_snd]; exact pre_msgT.1 s h, fun s t hp ht => ?_⟩
  rw [Rd.msg_snd] at ht
  have := pre_msgT.2 s t hp ht
  rw [Rd.msg_snd, Rd.msg_snd]
  refine ⟨this.1, ?_⟩
  cases hf : s.msgT.2.f with
  | true => exact .inl rfl
  | false =>
    refine .inr ?_
    have h2 := this.2.resolve_left (by rw [hf]; simp)
    unfold Rd.msg
    rw [if_neg (by rw [hf]; simp), if_neg (by rw [ht]; simp)]
    exact h2

/-! ### A change, read -/
def Rd.eff (s : Rd) : Eff × Rd :=
  let a := s.int; let b := a.2.text; let c := b.2.text; let d := c.2.text; let e := d.2.int; let f := e.2.int; let g := f.2.flag; let h := g.2.msg
  (⟨a.1, b.1, c.1, d.1, e.1, f.1, g.1, h.1⟩, h.2)
def Rd.reff (s : Rd) : Eff × Rd :=
  let a := s.rint; let b := a.2.rtext; let c := b.2.rtext; let d := c.2.rtext; let e := d.2.rint; let f := e.2.rint; let g := f.2.rflag; let h := g.2.rmsg
  (⟨a.1, b.1, c.1, d.1, e.1, f.1, g.1, h.1⟩, h.2)
theorem eff_is : (Rd.eff : RdM Eff) = RdM.bind (Rd.int : RdM Int) fun a => RdM.bind (Rd.text : RdM ByteArray) fun b => RdM.bind (Rd.text : RdM ByteArray) fun c => RdM.bind (Rd.text : RdM ByteArray) fun d => RdM.bind (Rd.int : RdM Int) fun e => RdM.bind (Rd.int : RdM Int) fun f => RdM.bind (Rd.flag : RdM Bool) fun g => RdM.bind (Rd.msg : RdM Msg) fun h => RdM.ret ⟨a, b, c, d, e, f, g, h⟩ := rfl
theorem reff_is : (Rd.reff : RdM Eff) = RdM.bind (Rd.rint : RdM Int) fun a => RdM.bind (Rd.rtext : RdM ByteArray) fun b => RdM.bind (Rd.rtext : RdM ByteArray) fun c => RdM.bind (Rd.rtext : RdM ByteArray) fun d => RdM.bind (Rd.rint : RdM Int) fun e => RdM.bind (Rd.rint : RdM Int) fun f => RdM.bind (Rd.rflag : RdM Bool) fun g => RdM.bind (Rd.rmsg : RdM Msg) fun h => RdM.ret ⟨a, b, c, d, e, f, g, h⟩ := rfl
theorem pre_eff : PreOK (Rd.eff : RdM Eff) := by
  rw [eff_is]
  exact pre_int.bind fun _ => pre_text.bind fun _ => pre_text.bind fun _ => pre_text.bind fun _ => pre_int.bind fun _ => pre_int.bind fun _ => pre_flag.bind fun _ => pre_msg.bind fun _ => .ret _
theorem alike_eff : AlikeOK (Rd.eff : RdM Eff) (Rd.reff : RdM Eff) := by
  rw [eff_is, reff_is]
  exact alike_int.bind fun _ => alike_text.bind fun _ => alike_text.bind fun _ => alike_text.bind fun _ => alike_int.bind fun _ => alike_int.bind fun _ => alike_flag.bind fun _ => alike_msg.bind fun _ => .ret _
def Rd.effs : Nat → Rd → Option (List Eff) × Rd
  | 0, s => (some [], s)
  | n + 1, s => if s.eff.2.f || !s.eff.1.right then (none, s.eff.2) else ((Rd.effs n s.eff.2).1.map (s.eff.1 :: ·), (Rd.effs n s.eff.2).2)
attribute [local irreducible] Rd.eff Rd.reff
theorem effs_zero (s : Rd) : Rd.effs 0 s = (some [], s) := rfl
theorem effs_succ (n : Nat) (s : Rd) : Rd.effs (n + 1) s = if s.eff.2.f || !s.eff.1.right then (none, s.eff.2) else ((Rd.effs n s.eff.2).1.map (s.eff.1 :: ·), (Rd.effs n s.eff.2).2) := rfl
def effRead (b : List UInt8) : Option (List Eff) :=
  let a := Rd.int ⟨b, false⟩
  if a.2.f = true ∨ a.1 < 0 ∨ 10000 < a.1 then none else
  match (Rd.effs a.1.toNat a.2).1 with
  | none => none
  | some l => if (Rd.effs a.1.toNat a.2).2.done then some l else none
/-- A proper beginning is never read. -/
theorem effs_pre : ∀ (n : Nat) (s t : Rd) (l : List Eff), Pre s t → (Rd.effs n t).1 = some l → (Rd.effs n s).1 = none ∨ ((Rd.effs n s).1 = some l ∧ Pre (Rd.effs n s).2 (Rd.effs n t).2)
  | 0, s, t, l, hp, h => by
    rw [effs_zero] at h
    rw [effs_zero, effs_zero]
    exact .inr ⟨h, hp⟩
  | n + 1, s, t, l, hp, h => by
    rw [effs_succ] at h
    rw [effs_succ, effs_succ]
    by_cases hc : (t.eff.2.f || !t.eff.1.right) = true
    · rw [if_pos hc] at h; cases h
    · rw [if_neg hc] at h
      simp only [Bool.or_eq_true, Bool.not_eq_true', not_or, Bool.not_eq_true, Bool.not_eq_false] at hc
      obtain ⟨p1, p2⟩ := pre_eff.2 s t hp hc.1
      rcases p2 with hf | he
      · rw [if_pos (by show (s.eff.2.f || _) = true; rw [hf]; rfl)]
        exact .inl rfl
      · have he : s.eff.1 = t.eff.1 := he
        by_cases hs : s.eff.2.f = true
        · rw [if_pos (by rw [hs]; rfl)]; exact .inl rfl
        · rw [if_neg (by rw [he, hc.2]; simpa using hs), if_neg (by rw [hc.1, hc.2]; simp)]
          obtain ⟨l', hl', rfl⟩ := Option.map_eq_some_iff.1 h
          rcases effs_pre n s.eff.2 t.eff.2 l' p1 hl' with h1 | ⟨h1, h2⟩
          · rw [h1]; exact .inl rfl
          · rw [h1, he]; exact .inr ⟨rfl, h2⟩
theorem effRead_pre {b : List UInt8} {l : List Eff} (h : effRead b = some l) (n : Nat) (hn : n < b.length) : effRead (b.take n) = none := by
  have hp := Pre.cut b n hn
  unfold effRead at h ⊢
  dsimp only at h ⊢
  by_cases hc : (Rd.int ⟨b, false⟩).2.f = true ∨ (Rd.int ⟨b, false⟩).1 < 0 ∨ 10000 < (Rd.int ⟨b, false⟩).1
  · rw [if_pos hc] at h; cases h
  · rw [if_neg hc] at h
    have hf : (Rd.int ⟨b, false⟩).2.f = false := by
      cases hx : (Rd.int ⟨b, false⟩).2.f with
      | false => rfl
      | true => exact absurd (.inl hx) hc
    obtain ⟨p1, p2⟩ := pre_int.2 _ _ hp hf
    rcases p2 with hx | hx
    · rw [if_pos (.inl hx)]
    · have hx : (Rd.int ⟨b.take n, false⟩).1 = (Rd.int ⟨b, false⟩).1 := hx
      by_cases hs : (Rd.int ⟨b.take n, false⟩).2.f = true
      · rw [if_pos (.inl hs)]
      · rw [if_neg (by rw [hx]; intro q; rcases q with q | q; exact hs q; exact hc (.inr q)), hx]
        cases ht : (Rd.effs (Rd.int ⟨b, false⟩).1.toNat (Rd.int ⟨b, false⟩).2).1 with
        | none => rw [ht] at h; cases h
        | some l' =>
          rw [ht] at h
          dsimp only at h
          by_cases hd : (Rd.effs (Rd.int ⟨b, false⟩).1.toNat (Rd.int ⟨b, false⟩).2).2.done = true
          · rcases effs_pre _ _ _ l' p1 ht with h1 | ⟨h1, h2⟩
            · rw [h1]
            · rw [h1]
              have : (Rd.effs (Rd.int ⟨b, false⟩).1.toNat (Rd.int ⟨b.take n, false⟩).2).2.done = false := h2.done (by simpa [Rd.done] using (by simpa [Rd.done] using hd : _ ∧ _).2)
              dsimp only
              rw [this]; rfl
          · rw [if_neg hd] at h; cases h
/-! ### The document's reading -/
def Rd.reffs : Nat → List Eff → Bool → Rd → List Eff × Bool × Rd
  | 0, acc, ok, s => (acc, ok, s)
  | n + 1, acc, ok, s => if s.f = true then (acc, ok, s) else Rd.reffs n (acc ++ [s.reff.1]) (ok && s.reff.1.right) s.reff.2
theorem reffs_zero (acc : List Eff) (ok : Bool) (s : Rd) : Rd.reffs 0 acc ok s = (acc, ok, s) := rfl
theorem reffs_succ (n : Nat) (acc : List Eff) (ok : Bool) (s : Rd) : Rd.reffs (n + 1) acc ok s = if s.f = true then (acc, ok, s) else Rd.reffs n (acc ++ [s.reff.1]) (ok && s.reff.1.right) s.reff.2 := rfl
def effRef (b : List UInt8) : Option (List Eff) :=
  let a := Rd.rint ⟨b, false⟩
  if a.1 < 0 ∨ 10000 < a.1 then none else
  if (!(Rd.reffs a.1.toNat [] true a.2).2.2.done || !(Rd.reffs a.1.toNat [] true a.2).2.1) = true then none else some (Rd.reffs a.1.toNat [] true a.2).1
theorem reffs_f : ∀ (n : Nat) (acc : List Eff) (ok : Bool) (s : Rd), s.f = true → Rd.reffs n acc ok s = (acc, ok, s)
  | 0, _, _, _, _ => rfl
  | _ + 1, _, _, _, h => by rw [reffs_succ, if_pos h]
theorem reffs_eq : ∀ (n : Nat) (acc : List Eff) (ok : Bool) (s t : Rd), Alike s t →
    (if (!(Rd.reffs n acc ok t).2.2.done || !(Rd.reffs n acc ok t).2.1) = true then none else some (Rd.reffs n acc ok t).1) =
      (if ok = true then match (Rd.effs n s).1 with | none => none | some l => if (Rd.effs n s).2.done then some (acc ++ l) else none else none)
  | 0, acc, ok, s, t, h => by
    have hd := h.done
    rw [reffs_zero, effs_zero]
    dsimp only
    rw [hd]
    cases ok <;> cases t.done <;> simp
  | n + 1, acc, ok, s, t, h => by
    rw [reffs_succ, effs_succ]
    obtain ⟨a1, a2⟩ := alike_eff s t h
    have a2 : s.eff.1 = t.reff.1 := a2
    have hf : s.f = t.f := h.1
    by_cases hs : t.f = true
    · rw [if_pos hs]
      have h1 : s.eff.2.f = true := pre_eff.1 s (by rw [hf, hs])
      have hc : (s.eff.2.f || !s.eff.1.right) = true := by rw [h1]; rfl
      rw [if_pos hc]
      simp [Rd.done, hs]
    · rw [if_neg hs]
      by_cases h1 : s.eff.2.f = true
      · have h2 : t.reff.2.f = true := by rw [← h1]; exact a1.1.symm
        have hc : (s.eff.2.f || !s.eff.1.right) = true := by rw [h1]; rfl
        rw [reffs_f _ _ _ _ h2, if_pos hc]
        simp [Rd.done, h2]
      · rw [reffs_eq n _ _ s.eff.2 t.reff.2 a1, ← a2]
        cases hr : s.eff.1.right with
        | false => simp
        | true =>
          have hc : ¬ (s.eff.2.f || !true) = true := by simpa using h1
          rw [if_neg hc]
          cases hx : (Rd.effs n s.eff.2).1 with
          | none => simp
          | some l => simp
theorem effRef_eq (b : List UInt8) : effRef b = effRead b := by
  unfold effRef effRead
  dsimp only
  obtain ⟨a1, a2⟩ := alike_int ⟨b, false⟩ ⟨b, false⟩ (Alike.refl _)
  have a2 : (Rd.int ⟨b, false⟩).1 = (Rd.rint ⟨b, false⟩).1 := a2
  rw [← a2]
  by_cases hc : (Rd.int ⟨b, false⟩).1 < 0 ∨ 10000 < (Rd.int ⟨b, false⟩).1
  · rw [if_pos hc, if_pos (.inr hc)]
  · rw [if_neg hc]
    by_cases hf : (Rd.int ⟨b, false⟩).2.f = true
    · have h2 : (Rd.rint ⟨b, false⟩).2.f = true := by rw [← hf]; exact a1.1.symm
      have hc2 : (Rd.int ⟨b, false⟩).2.f = true ∨ (Rd.int ⟨b, false⟩).1 < 0 ∨ 10000 < (Rd.int ⟨b, false⟩).1 := .inl hf
      rw [reffs_f _ _ _ _ h2, if_pos hc2]
      simp [Rd.done, h2]
    · have hc2 : ¬ ((Rd.int ⟨b, false⟩).2.f = true ∨ (Rd.int ⟨b, false⟩).1 < 0 ∨ 10000 < (Rd.int ⟨b, false⟩).1) := fun q => q.elim hf hc
      rw [if_neg hc2, reffs_eq _ _ _ _ _ a1]
      simp
/-! ### What is written is read -/
def tcut (s : ByteArray) : ByteArray := ⟨((bytesOf s).take 65535).toArray⟩
theorem tcut_size (s : ByteArray) : (tcut s).size = min s.size 65535 := by
  show ((bytesOf s).take 65535).toArray.size = _
  rw [List.size_toArray, List.length_take, bytesOf_length, Nat.min_comm]
theorem tcut_eq {s : ByteArray} (h : s.size ≤ 65535) : tcut s = s := by
  unfold tcut
  rw [List.take_of_length_le (by rw [bytesOf_length]; exact h), bytesOf_mk]
def Msg.tcut (m : Msg) : Msg := { m with corr := L.tcut m.corr, body := L.tcut m.body }
def Eff.tcut (e : Eff) : Eff := { e with object := L.tcut e.object, key := L.tcut e.key, value := L.tcut e.value, msg := e.msg.tcut }
def Eff.bytes (e : Eff) : List UInt8 := wInt e.kind ++ wText e.object ++ wText e.key ++ wText e.value ++ wInt e.n ++ wInt e.limit ++ wFlag e.tried ++ e.msg.bytes
def effsBytes (l : List Eff) : List UInt8 := wInt l.length ++ l.flatMap Eff.bytes
theorem Rd.text_appC (s : ByteArray) (r : List UInt8) : Rd.text ⟨wText s ++ r, false⟩ = (tcut s, ⟨r, false⟩) := Rd.text_app s r
theorem Rd.msg_appC (m : Msg) (hf : m.fits) (r : List UInt8) : Rd.msg ⟨m.bytes ++ r, false⟩ = (m.tcut, ⟨r, false⟩) := by
  obtain ⟨h1, h2, h3, _⟩ := hf
  have e : m.bytes ++ r = wInt m.id ++ (wInt m.pri ++ (wInt m.retry ++ (wFlag m.claimed ++ (wText m.corr ++ (wText m.body ++ r))))) := by simp [Msg.bytes]
  have hT : Rd.msgT ⟨m.bytes ++ r, false⟩ = (m.tcut, ⟨r, false⟩) := by
    unfold Rd.msgT
    rw [e]
    simp only [Rd.int_app h1.1 h1.2, Rd.int_app h2.1 h2.2, Rd.int_app h3.1 h3.2, Rd.flag_app, Rd.text_appC]
    rfl
  unfold Rd.msg
  rw [hT, if_neg (by simp)]
theorem Rd.eff_app (e : Eff) (hf : e.fits) (r : List UInt8) : Rd.eff ⟨e.bytes ++ r, false⟩ = (e.tcut, ⟨r, false⟩) := by
  obtain ⟨h1, _, _, _, h2, h3, _, h4⟩ := hf
  have q : e.bytes ++ r = wInt e.kind ++ (wText e.object ++ (wText e.key ++ (wText e.value ++ (wInt e.n ++ (wInt e.limit ++ (wFlag e.tried ++ (e.msg.bytes ++ r))))))) := by simp [Eff.bytes]
  unfold Rd.eff
  rw [q]
  simp only [Rd.int_app h1.1 h1.2, Rd.int_app h2.1 h2.2, Rd.int_app h3.1 h3.2, Rd.flag_app, Rd.text_appC, Rd.msg_appC _ h4]
  rfl
theorem effName_size {s : ByteArray} (h : effName s = true) : s.size ≤ 16 := by simp [effName] at h; omega
theorem rwKey_size {s : ByteArray} (h : rwKey s = true) : s.size ≤ 40 := by simp [rwKey] at h; omega
theorem emp_size : (⟨#[]⟩ : ByteArray).size = 0 := rfl
theorem right_small {e : Eff} (h : e.right = true) : e.object.size ≤ 100 ∧ e.key.size ≤ 100 ∧ e.value.size ≤ 100 ∧ e.msg.corr.size ≤ 100 ∧ e.msg.body.size ≤ 100 := by
  unfold Eff.right at h
  simp only [Bool.and_eq_true, decide_eq_true_iff] at h
  obtain ⟨hn, hk⟩ := h
  have s1 : ∀ {a b : Bool}, (a && b) = true → a = true := fun h => ((Bool.and_eq_true _ _).mp h).1
  have s2 : ∀ {a b : Bool}, (a && b) = true → b = true := fun h => ((Bool.and_eq_true _ _).mp h).2
  unfold Eff.rightK at hk
  unfold Eff.named at hn
  dsimp only at hn
  have ho : ∀ {b : Bool}, (effName e.object && b) = true → e.object.size ≤ 100 := fun h => by have := effName_size (s1 h); omega
  split at hk
  · rename_i k
    rw [if_pos k] at hn
    rw [eff_ext] at hn
    obtain ⟨_, _, h3, h4, _, _, _, h8⟩ := hn
    have h8 : e.msg = ⟨0, 0, 0, false, ⟨#[]⟩, ⟨#[]⟩⟩ := h8
    have h3 : e.key = ⟨#[]⟩ := h3
    have h4 : e.value = ⟨#[]⟩ := h4
    rw [h3, h4, h8]
    exact ⟨ho hk, by decide, by decide, by decide, by decide⟩
  · rename_i k1
    rw [if_neg k1] at hn
    split at hk
    · rename_i k
      rw [if_pos k] at hn
      rw [eff_ext] at hn
      obtain ⟨_, _, h3, h4, _, _, _, h8⟩ := hn
      have h8 : e.msg = ⟨0, 0, 0, false, ⟨#[]⟩, ⟨#[]⟩⟩ := h8
      rw [h8]
      have hr := s2 hk
      unfold Rw.right at hr
      have a1 := rwKey_size (s1 hr)
      have a2 := s2 hr
      simp at a2 a1
      exact ⟨ho hk, by omega, by omega, by decide, by decide⟩
    · rename_i k2
      rw [if_neg k2] at hn
      split at hk
      · rename_i k
        rw [if_pos k] at hn
        rw [eff_ext] at hn
        obtain ⟨_, _, h3, h4, _, _, _, h8⟩ := hn
        have h8 : e.msg = ⟨0, 0, 0, false, ⟨#[]⟩, ⟨#[]⟩⟩ := h8
        have h4 : e.value = ⟨#[]⟩ := h4
        rw [h8, h4]
        have a1 := rwKey_size (s2 hk)
        exact ⟨ho hk, by omega, by decide, by decide, by decide⟩
      · rename_i k3
        rw [if_neg k3] at hn
        split at hk
        · rename_i k
          rw [if_pos k] at hn
          rw [eff_ext] at hn
          obtain ⟨_, _, h3, h4, _, _, _, h8⟩ := hn
          have h3 : e.key = ⟨#[]⟩ := h3
          have h4 : e.value = ⟨#[]⟩ := h4
          rw [h3, h4]
          have hm := s2 hk
          simp [Msg.right] at hm
          exact ⟨ho hk, by decide, by decide, by omega, by omega⟩
        · rename_i k4
          rw [if_neg k4] at hn
          have rest : ∀ {o : ByteArray} {n l : Int} {t : Bool}, e = ⟨e.kind, o, ⟨#[]⟩, ⟨#[]⟩, n, l, t, ⟨0, 0, 0, false, ⟨#[]⟩, ⟨#[]⟩⟩⟩ → o.size ≤ 100 → e.object.size ≤ 100 ∧ e.key.size ≤ 100 ∧ e.value.size ≤ 100 ∧ e.msg.corr.size ≤ 100 ∧ e.msg.body.size ≤ 100 := fun {o n l t} h h1 => by
            rw [eff_ext] at h
            obtain ⟨_, h2, h3, h4, _, _, _, h8⟩ := h
            have h2 : e.object = o := h2
            have h3 : e.key = ⟨#[]⟩ := h3
            have h4 : e.value = ⟨#[]⟩ := h4
            have h8 : e.msg = ⟨0, 0, 0, false, ⟨#[]⟩, ⟨#[]⟩⟩ := h8
            rw [h2, h3, h4, h8]
            exact ⟨h1, by decide, by decide, by decide, by decide⟩
          split at hk
          · rename_i k
            by_cases k56 : e.kind = 5 ∨ e.kind = 6
            · rw [if_pos k56] at hn; exact rest hn (ho hk)
            · rw [if_neg k56, if_pos (by omega)] at hn; exact rest hn (ho hk)
          · rename_i k5
            split at hk
            · rename_i k
              rw [if_neg (by omega), if_neg (by omega), if_pos k] at hn
              exact rest hn (by decide)
            · cases hk
theorem Eff.tcut_eq {e : Eff} (h : e.object.size ≤ 65535 ∧ e.key.size ≤ 65535 ∧ e.value.size ≤ 65535 ∧ e.msg.corr.size ≤ 65535 ∧ e.msg.body.size ≤ 65535) : e.tcut = e := by
  obtain ⟨h1, h2, h3, h4, h5⟩ := h
  rw [eff_ext]
  exact ⟨rfl, L.tcut_eq h1, L.tcut_eq h2, L.tcut_eq h3, rfl, rfl, rfl, by rw [msg_ext]; exact ⟨rfl, rfl, rfl, rfl, L.tcut_eq h4, L.tcut_eq h5⟩⟩
theorem Eff.tcut_right (e : Eff) : e.tcut.right = e.right := by
  have key : e.tcut.right = true → e.tcut = e := fun h => by
    obtain ⟨h1, h2, h3, h4, h5⟩ := right_small h
    have h1 : (L.tcut e.object).size ≤ 100 := h1
    have h2 : (L.tcut e.key).size ≤ 100 := h2
    have h3 : (L.tcut e.value).size ≤ 100 := h3
    have h4 : (L.tcut e.msg.corr).size ≤ 100 := h4
    have h5 : (L.tcut e.msg.body).size ≤ 100 := h5
    rw [tcut_size] at h1 h2 h3 h4 h5
    exact Eff.tcut_eq ⟨by omega, by omega, by omega, by omega, by omega⟩
  cases h : e.tcut.right with
  | true => rw [← key h, h]
  | false =>
    cases h2 : e.right with
    | false => rfl
    | true =>
      obtain ⟨h1, h3, h4, h5, h6⟩ := right_small h2
      rw [Eff.tcut_eq ⟨by omega, by omega, by omega, by omega, by omega⟩, h2] at h
      cases h
theorem effs_app : ∀ (l : List Eff) (r : List UInt8), (∀ e ∈ l, e.fits) → (l.all Eff.right = true → Rd.effs l.length ⟨l.flatMap Eff.bytes ++ r, false⟩ = (some l, ⟨r, false⟩)) ∧ (l.all Eff.right = false → (Rd.effs l.length ⟨l.flatMap Eff.bytes ++ r, false⟩).1 = none)
  | [], r, _ => ⟨fun _ => rfl, fun h => by cases h⟩
  | e :: l, r, hf => by
    have ih := effs_app l r (fun x hx => hf x (List.mem_cons_of_mem _ hx))
    have he := Rd.eff_app e (hf e List.mem_cons_self) (l.flatMap Eff.bytes ++ r)
    have q : (e :: l).flatMap Eff.bytes ++ r = e.bytes ++ (l.flatMap Eff.bytes ++ r) := by simp
    rw [q, List.length_cons, effs_succ, he]
    dsimp only
    rw [Eff.tcut_right, List.all_cons]
    cases hr : e.right with
    | false => exact ⟨fun h => by simp at h, fun _ => by simp⟩
    | true =>
      obtain ⟨h1, h3, h4, h5, h6⟩ := right_small hr
      rw [Eff.tcut_eq ⟨by omega, by omega, by omega, by omega, by omega⟩]
      refine ⟨fun h => ?_, fun h => ?_⟩
      · have := ih.1 (by simpa using h)
        simp [this]
      · have := ih.2 (by simpa using h)
        simp [this]
theorem effRead_of {b : List UInt8} {n : Int} {s : Rd} (h : Rd.int ⟨b, false⟩ = (n, s)) : effRead b = if s.f = true ∨ n < 0 ∨ 10000 < n then none else match (Rd.effs n.toNat s).1 with | none => none | some l => if (Rd.effs n.toNat s).2.done then some l else none := by
  unfold effRead
  simp only [h]
theorem effRead_bytes (l : List Eff) (r : List UInt8) (hl : l.length ≤ 10000) (hf : ∀ e ∈ l, e.fits) : effRead (effsBytes l ++ r) = if l.all Eff.right = true ∧ r = [] then some l else none := by
  have hi : Rd.int ⟨effsBytes l ++ r, false⟩ = ((l.length : Int), ⟨l.flatMap Eff.bytes ++ r, false⟩) := by
    unfold effsBytes
    rw [List.append_assoc]
    exact Rd.int_app (by omega) (by omega) _
  rw [effRead_of hi]
  have hc : ¬ ((Rd.mk (l.flatMap Eff.bytes ++ r) false).f = true ∨ (l.length : Int) < 0 ∨ 10000 < (l.length : Int)) := by
    rintro (h | h | h)
    · cases h
    · omega
    · omega
  rw [if_neg hc, Int.toNat_natCast]
  obtain ⟨h1, h2⟩ := effs_app l r hf
  cases ha : l.all Eff.right with
  | false => rw [h2 ha]; simp
  | true =>
    rw [h1 ha]
    cases r with
    | nil => simp [Rd.done]
    | cons c r => simp [Rd.done]
theorem effsBytes_length (l : List Eff) : (effsBytes l).length ≤ 8 + l.length * 400000 := by
  have key : ∀ l : List Eff, (l.flatMap Eff.bytes).length ≤ l.length * 400000 := fun l => by
    induction l with
    | nil => simp
    | cons e l ih =>
      have : e.bytes.length ≤ 400000 := by
        have := e.msg.bytes_length
        unfold Eff.bytes
        simp only [List.length_append, wInt_length, wFlag_length, wText_length]
        omega
      simp only [List.flatMap_cons, List.length_append, List.length_cons]
      omega
  have := key l
  unfold effsBytes
  rw [List.length_append, wInt_length]
  omega
end Go.Proofs.Ytlellgnklohclaa.L
