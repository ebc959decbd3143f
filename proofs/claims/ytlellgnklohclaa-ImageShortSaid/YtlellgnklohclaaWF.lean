/- Plain: readers put together; changes written and read. No program in sight. Walks: changes as bytes, the program's and the document's. Walks: changes read, by the program and by the document. Walks: small ones of the law: are two lists of changes one, is a list too long. Walk: changes read by the document. -/
import Derived.Test.YtlellgnklohclaaWE
import Derived.Test.YtlellgnklohclaaWM
import Derived.Test.YtlellgnklohclaaPA
import Derived.Test.YtlellgnklohclaaLC
/-! Plain: readers put together; changes written and read. No program in sight. -/
namespace Go.Proofs.Ytlellgnklohclaa.L
open Go

/-! ### Readers put together -/
def RdM (α : Type) := Rd → α × Rd
def RdM.bind {α β : Type} (r : RdM α) (k : α → RdM β) : RdM β := fun s => k (r s).1 (r s).2
def RdM.ret {α : Type} (a : α) : RdM α := fun s => (a, s)
def Sticky {α : Type} (r : RdM α) : Prop := ∀ s : Rd, s.f = true → (r s).2.f = true
def PreOK {α : Type} (r : RdM α) : Prop := Sticky r ∧ ∀ s t, Pre s t → (r t).2.f = false → Pre (r s).2 (r t).2 ∧ ((r s).2.f = true ∨ (r s).1 = (r t).1)
def AlikeOK {α : Type} (r r' : RdM α) : Prop := ∀ s t, Alike s t → Alike (r s).2 (r' t).2 ∧ (r s).1 = (r' t).1
theorem PreOK.ret {α : Type} (a : α) : PreOK (RdM.ret a) := ⟨fun _ h => h, fun _ _ h _ => ⟨h, .inr rfl⟩⟩
theorem PreOK.bind {α β : Type} {r : RdM α} {k : α → RdM β} (h : PreOK r) (hk : ∀ a, PreOK (k a)) : PreOK (RdM.bind r k) := by
  refine ⟨fun s hs => (hk _).1 _ (h.1 s hs), fun s t hp ht => ?_⟩
  have ht : (k (r t).1 (r t).2).2.f = false := ht
  have h1 : (r t).2.f = false := by
    cases hf : (r t).2.f with
    | false => rfl
    | true => rw [(hk _).1 _ hf] at ht; cases ht
  obtain ⟨p1, p2⟩ := h.2 s t hp h1
  show Pre (k (r s).1 (r s).2).2 (k (r t).1 (r t).2).2 ∧ _
  rcases p2 with hf | he
  · have : (k (r s).1 (r s).2).2.f = true := (hk _).1 _ hf
    exact ⟨.inl this, .inl this⟩
  · have := (hk (r t).1).2 _ _ p1 ht
    rw [← he] at this
    refine ⟨by rw [← he]; exact this.1, ?_⟩
    rcases this.2 with h | h
    · exact .inl h
    · exact .inr (by show (k (r s).1 (r s).2).1 = (k (r t).1 (r t).2).1; rw [← he]; exact h)
theorem AlikeOK.ret {α : Type} (a : α) : AlikeOK (RdM.ret a) (RdM.ret a) := fun _ _ h => ⟨h, rfl⟩
theorem AlikeOK.bind {α β : Type} {r r' : RdM α} {k k' : α → RdM β} (h : AlikeOK r r') (hk : ∀ a, AlikeOK (k a) (k' a)) : AlikeOK (RdM.bind r k) (RdM.bind r' k') := fun s t ha => by
  obtain ⟨h1, h2⟩ := h s t ha
  have := hk (r s).1 _ _ h1
  rw [h2] at this
  show Alike (k (r s).1 (r s).2).2 (k' (r' t).1 (r' t).2).2 ∧ (k (r s).1 (r s).2).1 = (k' (r' t).1 (r' t).2).1
  rw [h2]
  exact this
theorem pre_int : PreOK (Rd.int : RdM Int) := ⟨fun s h => by rw [Rd.int_f h]; exact h, fun _ _ h ht => h.int ht⟩
theorem pre_text : PreOK (Rd.text : RdM ByteArray) := ⟨fun s h => by rw [Rd.text_f h]; exact h, fun _ _ h ht => h.text ht⟩
theorem pre_flag : PreOK (Rd.flag : RdM Bool) := ⟨fun s h => by rw [Rd.flag_f h]; exact h, fun _ _ h ht => h.flag ht⟩
theorem alike_int : AlikeOK (Rd.int : RdM Int) (Rd.rint : RdM Int) := fun _ _ h => h.int
theorem alike_text : AlikeOK (Rd.text : RdM ByteArray) (Rd.rtext : RdM ByteArray) := fun _ _ h => h.text
theorem alike_flag : AlikeOK (Rd.flag : RdM Bool) (Rd.rflag : RdM Bool) := fun _ _ h => h.flag
theorem alike_msg : AlikeOK (Rd.msg : RdM Msg) (Rd.rmsg : RdM Msg) := fun _ _ h => h.msg
theorem pre_msgT : PreOK (Rd.msgT : RdM Msg) := by
  have e : (Rd.msgT : RdM Msg) = RdM.bind (Rd.int : RdM Int) fun a => RdM.bind (Rd.int : RdM Int) fun b => RdM.bind (Rd.int : RdM Int) fun c => RdM.bind (Rd.flag : RdM Bool) fun d => RdM.bind (Rd.text : RdM ByteArray) fun e => RdM.bind (Rd.text : RdM ByteArray) fun f => RdM.ret ⟨a, b, c, d, e, f⟩ := rfl
  rw [e]
  exact pre_int.bind fun _ => pre_int.bind fun _ => pre_int.bind fun _ => pre_flag.bind fun _ => pre_text.bind fun _ => pre_text.bind fun _ => .ret _
theorem Rd.msg_snd (s : Rd) : s.msg.2 = s.msgT.2 := by unfold Rd.msg; split <;> rfl
theorem pre_msg : PreOK (Rd.msg : RdM Msg) := by
  refine ⟨fun s h => by rw [Rd.msg_snd]; exact pre_msgT.1 s h, fun s t hp ht => ?_⟩
  rw [Rd.msg_snd] at ht
  have := pre_msgT.2 s t hp ht
  rw [Rd.msg_snd, Rd.msg_snd]
  refine ⟨this.1, ?_⟩
  cases hf : s.msgT.2.f with
  | true => exact .inl rfl
  | false =>
    refine .inr ?_
    have h2 := this.2.resolve_left (by rw [hf]; simp)
    unfold Rd.msg
    rw [if_neg (by rw [hf]; simp), if_neg (by rw [ht]; simp)]
    exact h2

/-! ### A change, read -/
def Rd.eff (s : Rd) : Eff × Rd :=
  let a := s.int; let b := a.2.text; let c := b.2.text; let d := c.2.text; let e := d.2.int; let f := e.2.int; let g := f.2.flag; let h := g.2.msg
  (⟨a.1, b.1, c.1, d.1, e.1, f.1, g.1, h.1⟩, h.2)
def Rd.reff (s : Rd) : Eff × Rd :=
  let a := s.rint; let b := a.2.rtext; let c := b.2.rtext; let d := c.2.rtext; let e := d.2.rint; let f := e.2.rint; let g := f.2.rflag; let h := g.2.rmsg
  (⟨a.1, b.1, c.1, d.1, e.1, f.1, g.1, h.1⟩, h.2)
theorem eff_is : (Rd.eff : RdM Eff) = RdM.bind (Rd.int : RdM Int) fun a => RdM.bind (Rd.text : RdM ByteArray) fun b => RdM.bind (Rd.text : RdM ByteArray) fun c => RdM.bind (Rd.text : RdM ByteArray) fun d => RdM.bind (Rd.int : RdM Int) fun e => RdM.bind (Rd.int : RdM Int) fun f => RdM.bind (Rd.flag : RdM Bool) fun g => RdM.bind (Rd.msg : RdM Msg) fun h => RdM.ret ⟨a, b, c, d, e, f, g, h⟩ := rfl
theorem reff_is : (Rd.reff : RdM Eff) = RdM.bind (Rd.rint : RdM Int) fun a => RdM.bind (Rd.rtext : RdM ByteArray) fun b => RdM.bind (Rd.rtext : RdM ByteArray) fun c => RdM.bind (Rd.rtext : RdM ByteArray) fun d => RdM.bind (Rd.rint : RdM Int) fun e => RdM.bind (Rd.rint : RdM Int) fun f => RdM.bind (Rd.rflag : RdM Bool) fun g => RdM.bind (Rd.rmsg : RdM Msg) fun h => RdM.ret ⟨a, b, c, d, e, f, g, h⟩ := rfl
theorem pre_eff : PreOK (Rd.eff : RdM Eff) := by
  rw [eff_is]
  exact pre_int.bind fun _ => pre_text.bind fun _ => pre_text.bind fun _ => pre_text.bind fun _ => pre_int.bind fun _ => pre_int.bind fun _ => pre_flag.bind fun _ => pre_msg.bind fun _ => .ret _
theorem alike_eff : AlikeOK (Rd.eff : RdM Eff) (Rd.reff : RdM Eff) := by
  rw [eff_is, reff_is]
  exact alike_int.bind fun _ => alike_text.bind fun _ => alike_text.bind fun _ => alike_text.bind fun _ => alike_int.bind fun _ => alike_int.bind fun _ => alike_flag.bind fun _ => alike_msg.bind fun _ => .ret _
def Rd.effs : Nat → Rd → Option (List Eff) × Rd
  | 0, s => (some [], s)
  | n + 1, s => if s.eff.2.f || !s.eff.1.right then (none, s.eff.2) else ((Rd.effs n s.eff.2).1.map (s.eff.1 :: ·), (Rd.effs n s.eff.2).2)
attribute [local irreducible] Rd.eff Rd.reff
theorem effs_zero (s : Rd) : Rd.effs 0 s = (some [], s) := rfl
theorem effs_succ (n : Nat) (s : Rd) : Rd.effs (n + 1) s = if s.eff.2.f || !s.eff.1.right then (none, s.eff.2) else ((Rd.effs n s.eff.2).1.map (s.eff.1 :: ·), (Rd.effs n s.eff.2).2) := rfl
def effRead (b : List UInt8) : Option (List Eff) :=
  let a := Rd.int ⟨b, false⟩
  if a.2.f = true ∨ a.1 < 0 ∨ 10000 < a.1 then none else
  match (Rd.effs a.1.toNat a.2).1 with
  | none => none
  | some l => if (Rd.effs a.1.toNat a.2).2.done then some l else none
/-- A proper beginning is never read. -/
theorem effs_pre : ∀ (n : Nat) (s t : Rd) (l : List Eff), Pre s t → (Rd.effs n t).1 = some l → (Rd.effs n s).1 = none ∨ ((Rd.effs n s).1 = some l ∧ Pre (Rd.effs n s).2 (Rd.effs n t).2)
  | 0, s, t, l, hp, h => by
    rw [effs_zero] at h
    rw [effs_zero, effs_zero]
    exact .inr ⟨h, hp⟩
  | n + 1, s, t, l, hp, h => by
    rw [effs_succ] at h
    rw [effs_succ, effs_succ]
    by_cases hc : (t.eff.2.f || !t.eff.1.right) = true
    · rw [if_pos hc] at h; cases h
    · rw [if_neg hc] at h
      simp only [Bool.or_eq_true, Bool.not_eq_true', not_or, Bool.not_eq_true, Bool.not_eq_false] at hc
      obtain ⟨p1, p2⟩ := pre_eff.2 s t hp hc.1
      rcases p2 with hf | he
      · rw [if_pos (by show (s.eff.2.f || _) = true; rw [hf]; rfl)]
        exact .inl rfl
      · have he : s.eff.1 = t.eff.1 := he
        by_cases hs : s.eff.2.f = true
        · rw [if_pos (by rw [hs]; rfl)]; exact .inl rfl
        · rw [if_neg (by rw [he, hc.2]; simpa using hs), if_neg (by rw [hc.1, hc.2]; simp)]
          obtain ⟨l', hl', rfl⟩ := Option.map_eq_some_iff.1 h
          rcases effs_pre n s.eff.2 t.eff.2 l' p1 hl' with h1 | ⟨h1, h2⟩
          · rw [h1]; exact .inl rfl
          · rw [h1, he]; exact .inr ⟨rfl, h2⟩
theorem effRead_pre {b : List UInt8} {l : List Eff} (h : effRead b = some l) (n : Nat) (hn : n < b.length) : effRead (b.take n) = none := by
  have hp := Pre.cut b n hn
  unfold effRead at h ⊢
  dsimp only at h ⊢
  by_cases hc : (Rd.int ⟨b, false⟩).2.f = true ∨ (Rd.int ⟨b, false⟩).1 < 0 ∨ 10000 < (Rd.int ⟨b, false⟩).1
  · rw [if_pos hc] at h; cases h
  · rw [if_neg hc] at h
    have hf : (Rd.int ⟨b, false⟩).2.f = false := by
      cases hx : (Rd.int ⟨b, false⟩).2.f with
      | false => rfl
      | true => exact absurd (.inl hx) hc
    obtain ⟨p1, p2⟩ := pre_int.2 _ _ hp hf
    rcases p2 with hx | hx
    · rw [if_pos (.inl hx)]
    · have hx : (Rd.int ⟨b.take n, false⟩).1 = (Rd.int ⟨b, false⟩).1 := hx
      by_cases hs : (Rd.int ⟨b.take n, false⟩).2.f = true
      · rw [if_pos (.inl hs)]
      · rw [if_neg (by rw [hx]; intro q; rcases q with q | q; exact hs q; exact hc (.inr q)), hx]
        cases ht : (Rd.effs (Rd.int ⟨b, false⟩).1.toNat (Rd.int ⟨b, false⟩).2).1 with
        | none => rw [ht] at h; cases h
        | some l' =>
          rw [ht] at h
          dsimp only at h
          by_cases hd : (Rd.effs (Rd.int ⟨b, false⟩).1.toNat (Rd.int ⟨b, false⟩).2).2.done = true
          · rcases effs_pre _ _ _ l' p1 ht with h1 | ⟨h1, h2⟩
            · rw [h1]
            · rw [h1]
              have : (Rd.effs (Rd.int ⟨b, false⟩).1.toNat (Rd.int ⟨b.take n, false⟩).2).2.done = false := h2.done (by simpa [Rd.done] using (by simpa [Rd.done] using hd : _ ∧ _).2)
              dsimp only
              rw [this]; rfl
          · rw [if_neg hd] at h; cases h
/-! ### The document's reading -/
def Rd.reffs : Nat → List Eff → Bool → Rd → List Eff × Bool × Rd
  | 0, acc, ok, s => (acc, ok, s)
  | n + 1, acc, ok, s => if s.f = true then (acc, ok, s) else Rd.reffs n (acc ++ [s.reff.1]) (ok && s.reff.1.right) s.reff.2
theorem reffs_zero (acc : List Eff) (ok : Bool) (s : Rd) : Rd.reffs 0 acc ok s = (acc, ok, s) := rfl
theorem reffs_succ (n : Nat) (acc : List Eff) (ok : Bool) (s : Rd) : Rd.reffs (n + 1) acc ok s = if s.f = true then (acc, ok, s) else Rd.reffs n (acc ++ [s.reff.1]) (ok && s.reff.1.right) s.reff.2 := rfl
def effRef (b : List UInt8) : Option (List Eff) :=
  let a := Rd.rint ⟨b, false⟩
  if a.1 < 0 ∨ 10000 < a.1 then none else
  if (!(Rd.reffs a.1.toNat [] true a.2).2.2.done || !(Rd.reffs a.1.toNat [] true a.2).2.1) = true then none else some (Rd.reffs a.1.toNat [] true a.2).1
theorem reffs_f : ∀ (n : Nat) (acc : List Eff) (ok : Bool) (s : Rd), s.f = true → Rd.reffs n acc ok s = (acc, ok, s)
  | 0, _, _, _, _ => rfl
  | _ + 1, _, _, _, h => by rw [reffs_succ, if_pos h]
theorem reffs_eq : ∀ (n : Nat) (acc : List Eff) (ok : Bool) (s t : Rd), Alike s t →
    (if (!(Rd.reffs n acc ok t).2.2.done || !(Rd.reffs n acc ok t).2.1) = true then none else some (Rd.reffs n acc ok t).1) =
      (if ok = true then match (Rd.effs n s).1 with | none => none | some l => if (Rd.effs n s).2.done then some (acc ++ l) else none else none)
  | 0, acc, ok, s, t, h => by
    have hd := h.done
    rw [reffs_zero, effs_zero]
    dsimp only
    rw [hd]
    cases ok <;> cases t.done <;> simp
  | n + 1, acc, ok, s, t, h => by
    rw [reffs_succ, effs_succ]
    obtain ⟨a1, a2⟩ := alike_eff s t h
    have a2 : s.eff.1 = t.reff.1 := a2
    have hf : s.f = t.f := h.1
    by_cases hs : t.f = true
    · rw [if_pos hs]
      have h1 : s.eff.2.f = true := pre_eff.1 s (by rw [hf, hs])
      have hc : (s.eff.2.f || !s.eff.1.right) = true := by rw [h1]; rfl
      rw [if_pos hc]
      simp [Rd.done, hs]
    · rw [if_neg hs]
      by_cases h1 : s.eff.2.f = true
      · have h2 : t.reff.2.f = true := by rw [← h1]; exact a1.1.symm
        have hc : (s.eff.2.f || !s.eff.1.right) = true := by rw [h1]; rfl
        rw [reffs_f _ _ _ _ h2, if_pos hc]
        simp [Rd.done, h2]
      · rw [reffs_eq n _ _ s.eff.2 t.reff.2 a1, ← a2]
        cases hr : s.eff.1.right with
        | false => simp
        | true =>
          have hc : ¬ (s.eff.2.f || !true) = true := by simpa using h1
          rw [if_neg hc]
          cases hx : (Rd.effs n s.eff.2).1 with
          | none => simp
          | some l => simp
theorem effRef_eq (b : List UInt8) : effRef b = effRead b := by
  unfold effRef effRead
  dsimp only
  obtain ⟨a1, a2⟩ := alike_int ⟨b, false⟩ ⟨b, false⟩ (Alike.refl _)
  have a2 : (Rd.int ⟨b, false⟩).1 = (Rd.rint ⟨b, false⟩).1 := a2
  rw [← a2]
  by_cases hc : (Rd.int ⟨b, false⟩).1 < 0 ∨ 10000 < (Rd.int ⟨b, false⟩).1
  · rw [if_pos hc, if_pos (.inr hc)]
  · rw [if_neg hc]
    by_cases hf : (Rd.int ⟨b, false⟩).2.f = true
    · have h2 : (Rd.rint ⟨b, false⟩).2.f = true := by rw [← hf]; exact a1.1.symm
      have hc2 : (Rd.int ⟨b, false⟩).2.f = true ∨ (Rd.int ⟨b, false⟩).1 < 0 ∨ 10000 < (Rd.int ⟨b, false⟩).1 := .inl hf
      rw [reffs_f _ _ _ _ h2, if_pos hc2]
      simp [Rd.done, h2]
    · have hc2 : ¬ ((Rd.int ⟨b, false⟩).2.f = true ∨ (Rd.int ⟨b, false⟩).1 < 0 ∨ 10000 < (Rd.int ⟨b, false⟩).1) := fun q => q.elim hf hc
      rw [if_neg hc2, reffs_eq _ _ _ _ _ a1]
      simp
/-! ### What is written is read -/
def tcut (s : ByteArray) : ByteArray := ⟨((bytesOf s).take 65535).toArray⟩
theorem tcut_size (s : ByteArray) : (tcut s).size = min s.size 65535 := by
  show ((bytesOf s).take 65535).toArray.size = _
  rw [List.size_toArray, List.length_take, bytesOf_length, Nat.min_comm]
theorem tcut_eq {s : ByteArray} (h : s.size ≤ 65535) : tcut s = s := by
  unfold tcut
  rw [List.take_of_length_le (by rw [bytesOf_length]; exact h), bytesOf_mk]
def Msg.tcut (m : Msg) : Msg := { m with corr := L.tcut m.corr, body := L.tcut m.body }
def Eff.tcut (e : Eff) : Eff := { e with object := L.tcut e.object, key := L.tcut e.key, value := L.tcut e.value, msg := e.msg.tcut }
def Eff.bytes (e : Eff) : List UInt8 := wInt e.kind ++ wText e.object ++ wText e.key ++ wText e.value ++ wInt e.n ++ wInt e.limit ++ wFlag e.tried ++ e.msg.bytes
def effsBytes (l : List Eff) : List UInt8 := wInt l.length ++ l.flatMap Eff.bytes
theorem Rd.text_appC (s : ByteArray) (r : List UInt8) : Rd.text ⟨wText s ++ r, false⟩ = (tcut s, ⟨r, false⟩) := Rd.text_app s r
theorem Rd.msg_appC (m : Msg) (hf : m.fits) (r : List UInt8) : Rd.msg ⟨m.bytes ++ r, false⟩ = (m.tcut, ⟨r, false⟩) := by
  obtain ⟨h1, h2, h3, _⟩ := hf
  have e : m.bytes ++ r = wInt m.id ++ (wInt m.pri ++ (wInt m.retry ++ (wFlag m.claimed ++ (wText m.corr ++ (wText m.body ++ r))))) := by simp [Msg.bytes]
  have hT : Rd.msgT ⟨m.bytes ++ r, false⟩ = (m.tcut, ⟨r, false⟩) := by
    unfold Rd.msgT
    rw [e]
    simp only [Rd.int_app h1.1 h1.2, Rd.int_app h2.1 h2.2, Rd.int_app h3.1 h3.2, Rd.flag_app, Rd.text_appC]
    rfl
  unfold Rd.msg
  rw [hT, if_neg (by simp)]
theorem Rd.eff_app (e : Eff) (hf : e.fits) (r : List UInt8) : Rd.eff ⟨e.bytes ++ r, false⟩ = (e.tcut, ⟨r, false⟩) := by
  obtain ⟨h1, _, _, _, h2, h3, _, h4⟩ := hf
  have q : e.bytes ++ r = wInt e.kind ++ (wText e.object ++ (wText e.key ++ (wText e.value ++ (wInt e.n ++ (wInt e.limit ++ (wFlag e.tried ++ (e.msg.bytes ++ r))))))) := by simp [Eff.bytes]
  unfold Rd.eff
  rw [q]
  simp only [Rd.int_app h1.1 h1.2, Rd.int_app h2.1 h2.2, Rd.int_app h3.1 h3.2, Rd.flag_app, Rd.text_appC, Rd.msg_appC _ h4]
  rfl
theorem effName_size {s : ByteArray} (h : effName s = true) : s.size ≤ 16 := by simp [effName] at h; omega
theorem rwKey_size {s : ByteArray} (h : rwKey s = true) : s.size ≤ 40 := by simp [rwKey] at h; omega
theorem emp_size : (⟨#[]⟩ : ByteArray).size = 0 := rfl
theorem right_small {e : Eff} (h : e.right = true) : e.object.size ≤ 100 ∧ e.key.size ≤ 100 ∧ e.value.size ≤ 100 ∧ e.msg.corr.size ≤ 100 ∧ e.msg.body.size ≤ 100 := by
  unfold Eff.right at h
  simp only [Bool.and_eq_true, decide_eq_true_iff] at h
  obtain ⟨hn, hk⟩ := h
  have s1 : ∀ {a b : Bool}, (a && b) = true → a = true := fun h => ((Bool.and_eq_true _ _).mp h).1
  have s2 : ∀ {a b : Bool}, (a && b) = true → b = true := fun h => ((Bool.and_eq_true _ _).mp h).2
  unfold Eff.rightK at hk
  unfold Eff.named at hn
  dsimp only at hn
  have ho : ∀ {b : Bool}, (effName e.object && b) = true → e.object.size ≤ 100 := fun h => by have := effName_size (s1 h); omega
  split at hk
  · rename_i k
    rw [if_pos k] at hn
    rw [eff_ext] at hn
    obtain ⟨_, _, h3, h4, _, _, _, h8⟩ := hn
    have h8 : e.msg = ⟨0, 0, 0, false, ⟨#[]⟩, ⟨#[]⟩⟩ := h8
    have h3 : e.key = ⟨#[]⟩ := h3
    have h4 : e.value = ⟨#[]⟩ := h4
    rw [h3, h4, h8]
    exact ⟨ho hk, by decide, by decide, by decide, by decide⟩
  · rename_i k1
    rw [if_neg k1] at hn
    split at hk
    · rename_i k
      rw [if_pos k] at hn
      rw [eff_ext] at hn
      obtain ⟨_, _, h3, h4, _, _, _, h8⟩ := hn
      have h8 : e.msg = ⟨0, 0, 0, false, ⟨#[]⟩, ⟨#[]⟩⟩ := h8
      rw [h8]
      have hr := s2 hk
      unfold Rw.right at hr
      have a1 := rwKey_size (s1 hr)
      have a2 := s2 hr
      simp at a2 a1
      exact ⟨ho hk, by omega, by omega, by decide, by decide⟩
    · rename_i k2
      rw [if_neg k2] at hn
      split at hk
      · rename_i k
        rw [if_pos k] at hn
        rw [eff_ext] at hn
        obtain ⟨_, _, h3, h4, _, _, _, h8⟩ := hn
        have h8 : e.msg = ⟨0, 0, 0, false, ⟨#[]⟩, ⟨#[]⟩⟩ := h8
        have h4 : e.value = ⟨#[]⟩ := h4
        rw [h8, h4]
        have a1 := rwKey_size (s2 hk)
        exact ⟨ho hk, by omega, by decide, by decide, by decide⟩
      · rename_i k3
        rw [if_neg k3] at hn
        split at hk
        · rename_i k
          rw [if_pos k] at hn
          rw [eff_ext] at hn
          obtain ⟨_, _, h3, h4, _, _, _, h8⟩ := hn
          have h3 : e.key = ⟨#[]⟩ := h3
          have h4 : e.value = ⟨#[]⟩ := h4
          rw [h3, h4]
          have hm := s2 hk
          simp [Msg.right] at hm
          exact ⟨ho hk, by decide, by decide, by omega, by omega⟩
        · rename_i k4
          rw [if_neg k4] at hn
          have rest : ∀ {o : ByteArray} {n l : Int} {t : Bool}, e = ⟨e.kind, o, ⟨#[]⟩, ⟨#[]⟩, n, l, t, ⟨0, 0, 0, false, ⟨#[]⟩, ⟨#[]⟩⟩⟩ → o.size ≤ 100 → e.object.size ≤ 100 ∧ e.key.size ≤ 100 ∧ e.value.size ≤ 100 ∧ e.msg.corr.size ≤ 100 ∧ e.msg.body.size ≤ 100 := fun {o n l t} h h1 => by
            rw [eff_ext] at h
            obtain ⟨_, h2, h3, h4, _, _, _, h8⟩ := h
            have h2 : e.object = o := h2
            have h3 : e.key = ⟨#[]⟩ := h3
            have h4 : e.value = ⟨#[]⟩ := h4
            have h8 : e.msg = ⟨0, 0, 0, false, ⟨#[]⟩, ⟨#[]⟩⟩ := h8
            rw [h2, h3, h4, h8]
            exact ⟨h1, by decide, by decide, by decide, by decide⟩
          split at hk
          · rename_i k
            by_cases k56 : e.kind = 5 ∨ e.kind = 6
            · rw [if_pos k56] at hn; exact rest hn (ho hk)
            · rw [if_neg k56, if_pos (by omega)] at hn; exact rest hn (ho hk)
          · rename_i k5
            split at hk
            · rename_i k
              rw [if_neg (by omega), if_neg (by omega), if_pos k] at hn
              exact rest hn (by decide)
            · cases hk
theorem Eff.tcut_eq {e : Eff} (h : e.object.size ≤ 65535 ∧ e.key.size ≤ 65535 ∧ e.value.size ≤ 65535 ∧ e.msg.corr.size ≤ 65535 ∧ e.msg.body.size ≤ 65535) : e.tcut = e := by
  obtain ⟨h1, h2, h3, h4, h5⟩ := h
  rw [eff_ext]
  exact ⟨rfl, L.tcut_eq h1, L.tcut_eq h2, L.tcut_eq h3, rfl, rfl, rfl, by rw [msg_ext]; exact ⟨rfl, rfl, rfl, rfl, L.tcut_eq h4, L.tcut_eq h5⟩⟩
theorem Eff.tcut_right (e : Eff) : e.tcut.right = e.right := by
  have key : e.tcut.right = true → e.tcut = e := fun h => by
    obtain ⟨h1, h2, h3, h4, h5⟩ := right_small h
    have h1 : (L.tcut e.object).size ≤ 100 := h1
    have h2 : (L.tcut e.key).size ≤ 100 := h2
    have h3 : (L.tcut e.value).size ≤ 100 := h3
    have h4 : (L.tcut e.msg.corr).size ≤ 100 := h4
    have h5 : (L.tcut e.msg.body).size ≤ 100 := h5
    rw [tcut_size] at h1 h2 h3 h4 h5
    exact Eff.tcut_eq ⟨by omega, by omega, by omega, by omega, by omega⟩
  cases h : e.tcut.right with
  | true => rw [← key h, h]
  | false =>
    cases h2 : e.right with
    | false => rfl
    | true =>
      obtain ⟨h1, h3, h4, h5, h6⟩ := right_small h2
      rw [Eff.tcut_eq ⟨by omega, by omega, by omega, by omega, by omega⟩, h2] at h
      cases h
theorem effs_app : ∀ (l : List Eff) (r : List UInt8), (∀ e ∈ l, e.fits) → (l.all Eff.right = true → Rd.effs l.length ⟨l.flatMap Eff.bytes ++ r, false⟩ = (some l, ⟨r, false⟩)) ∧ (l.all Eff.right = false → (Rd.effs l.length ⟨l.flatMap Eff.bytes ++ r, false⟩).1 = none)
  | [], r, _ => ⟨fun _ => rfl, fun h => by cases h⟩
  | e :: l, r, hf => by
    have ih := effs_app l r (fun x hx => hf x (List.mem_cons_of_mem _ hx))
    have he := Rd.eff_app e (hf e List.mem_cons_self) (l.flatMap Eff.bytes ++ r)
    have q : (e :: l).flatMap Eff.bytes ++ r = e.bytes ++ (l.flatMap Eff.bytes ++ r) := by simp
    rw [q, List.length_cons, effs_succ, he]
    dsimp only
    rw [Eff.tcut_right, List.all_cons]
    cases hr : e.right with
    | false => exact ⟨fun h => by simp at h, fun _ => by simp⟩
    | true =>
      obtain ⟨h1, h3, h4, h5, h6⟩ := right_small hr
      rw [Eff.tcut_eq ⟨by omega, by omega, by omega, by omega, by omega⟩]
      refine ⟨fun h => ?_, fun h => ?_⟩
      · have := ih.1 (by simpa using h)
        simp [this]
      · have := ih.2 (by simpa using h)
        simp [this]
theorem effRead_of {b : List UInt8} {n : Int} {s : Rd} (h : Rd.int ⟨b, false⟩ = (n, s)) : effRead b = if s.f = true ∨ n < 0 ∨ 10000 < n then none else match (Rd.effs n.toNat s).1 with | none => none | some l => if (Rd.effs n.toNat s).2.done then some l else none := by
  unfold effRead
  simp only [h]
theorem effRead_bytes (l : List Eff) (r : List UInt8) (hl : l.length ≤ 10000) (hf : ∀ e ∈ l, e.fits) : effRead (effsBytes l ++ r) = if l.all Eff.right = true ∧ r = [] then some l else none := by
  have hi : Rd.int ⟨effsBytes l ++ r, false⟩ = ((l.length : Int), ⟨l.flatMap Eff.bytes ++ r, false⟩) := by
    unfold effsBytes
    rw [List.append_assoc]
    exact Rd.int_app (by omega) (by omega) _
  rw [effRead_of hi]
  have hc : ¬ ((Rd.mk (l.flatMap Eff.bytes ++ r) false).f = true ∨ (l.length : Int) < 0 ∨ 10000 < (l.length : Int)) := by
    rintro (h | h | h)
    · cases h
    · omega
    · omega
  rw [if_neg hc, Int.toNat_natCast]
  obtain ⟨h1, h2⟩ := effs_app l r hf
  cases ha : l.all Eff.right with
  | false => rw [h2 ha]; simp
  | true =>
    rw [h1 ha]
    cases r with
    | nil => simp [Rd.done]
    | cons c r => simp [Rd.done]
theorem effsBytes_length (l : List Eff) : (effsBytes l).length ≤ 8 + l.length * 400000 := by
  have key : ∀ l : List Eff, (l.flatMap Eff.bytes).length ≤ l.length * 400000 := fun l => by
    induction l with
    | nil => simp
    | cons e l ih =>
      have : e.bytes.length ≤ 400000 := by
        have := e.msg.bytes_length
        unfold Eff.bytes
        simp only [List.length_append, wInt_length, wFlag_length, wText_length]
        omega
      simp only [List.flatMap_cons, List.length_append, List.length_cons]
      omega
  have := key l
  unfold effsBytes
  rw [List.length_append, wInt_length]
  omega
end Go.Proofs.Ytlellgnklohclaa.L
/-! Walks: changes as bytes, the program's and the document's. -/
namespace Go.Proofs.Ytlellgnklohclaa.L
open Go Go.Proofs
attribute [local irreducible] pv fv pt fz RowF RowO rowP old pure_ elA
set_option maxRecDepth 100000
set_option linter.unusedSimpArgs false
set_option linter.unusedVariables false

def effPre (l : List Eff) (i : Nat) : List UInt8 := wInt l.length ++ (l.take i).flatMap Eff.bytes
theorem effPre_zero (l : List Eff) : [] ++ wInt l.length = effPre l 0 := by simp [effPre]
theorem effPre_succ {l : List Eff} {i : Nat} {e : Eff} (h : l[i]? = some e) : effPre l (i + 1) = effPre l i ++ wInt e.kind ++ wText e.object ++ wText e.key ++ wText e.value ++ wInt e.n ++ wInt e.limit ++ wFlag e.tried ++ e.msg.bytes := by
  unfold effPre
  rw [List.take_add_one, h]
  simp [Eff.bytes]
theorem effPre_all (l : List Eff) : effPre l l.length = effsBytes l := by simp [effPre, effsBytes]
theorem effPre_len (l : List Eff) (i : Nat) (hi : i ≤ l.length) : (effPre l i).length ≤ 8 + i * 400000 := by
  have h := effsBytes_length (l.take i)
  have e : (effPre l i).length = (effsBytes (l.take i)).length := by simp [effPre, effsBytes, wInt_length]
  rw [List.length_take, Nat.min_eq_left hi] at h
  omega
--%call poste/effect.Bytes := eff_Bytes _ _ _ (by first | omega | (simp; omega)) !! ⟨_, ⟨q#, c#, rfl, rfl, hc#⟩, rfl⟩
set_option maxHeartbeats 800000 in
theorem eff_Bytes (q : Option Addr) (cap : Nat) (l : List Eff) (hl : l.length ≤ 100000) : Fn Try.prog 47 [.slice q l.length cap].toArray [RowF Kd.eff q l]
    (fun r post => ∃ q' cap', r = .slice q' (effsBytes l).length cap' ∧ post = [RowF Kd.u8 q' (effsBytes l)] ∧ (effsBytes l).length ≤ cap') := by
  refine Fn.enter (N := 53) Try.func47 rfl Try.ntmps47 (by kernel_rfl) rfl (fun ρ L => ?_)
  refine K.seq ?_
  refine K.region ?_
  refine KO.q rfl (q_assign rfl) ?_
  refine KO.done ?_
  refine K.seq ?_
  refine K.region ?_
  refine KO.q rfl (q_build st_35 rfl (by repeat (first | exact Fill.nil | (apply Fill.cons; rfl; rfl; rfl) | exact SetN.nil | apply SetN.cons | exact SetAt.here | apply SetAt.there))) ?_
  refine KO.loud rfl (l_box rfl rfl) ?_
  rintro _ _ ⟨b7, rfl, rfl⟩
  refine KO.q rfl (q_assign rfl) ?_
  refine KO.done ?_
  refine K.st (fun w h => rowO_nil (k := Kd.u8) 5 h) ?_
  refine K.seq ?_
  refine K.region ?_
  refine KO.q rfl (q_move rfl) ?_
  refine KO.q rfl (q_move rfl) ?_
  refine KO.q rfl (q_len Try.underlying59 rfl) ?_
  refine KO.loud rfl (OpL.callE rfl (wr_Int b7 none 0 [] _ (by simp))) ?_
  rintro _ _ ⟨_, ⟨q0, c0, rfl, rfl⟩, rfl⟩
  refine KO.done ?_
  refine K.seq <| K.seq ?_
  refine K.region ?_
  refine KO.q rfl (q_move rfl) ?_
  refine KO.q rfl (q_len Try.underlying59 rfl) ?_
  refine KO.q rfl (q_move rfl) ?_
  refine KO.done ?_
  refine K.block ?_
  rw [effPre_zero]
  refine K.rounds2 (ι := { x : Nat × Option Addr × Nat // x.1 ≤ l.length }) (fun x => [(14, .int .i64 x.1.1), (13, .int .i64 l.length), (12, .slice q l.length cap), (3, .pointer (some ⟨b7, 0, none⟩))]) (fun x => WrL b7 x.1.2.1 x.1.2.2 (effPre l x.1.1) ++ (RowF Kd.eff q l :: L)) (fun x => l.length - x.1.1) ⟨(0, q0, c0), Nat.zero_le _⟩ (by repeat (first | exact Env.sub_nil _ | refine Env.sub_cons rfl ?_)) (fun w h => h.fitD) (fun x ih => ?_)
  obtain ⟨⟨i, q', cap'⟩, hi⟩ := x
  have hpl := effPre_len l i hi
  dsimp only at hi ⊢
  refine K.seq ?_
  refine K.region ?_
  refine KO.q rfl (q_lt rfl rfl) ?_
  refine KO.done ?_
  refine K.seq ?_
  refine K.dcond (s := 15) rfl (fun g15 => ?_) (fun g15 => ?_)
  · obtain ⟨e, he⟩ : ∃ e, l[i]? = some e := ⟨_, List.getElem?_eq_getElem (by omega)⟩
    have hml := e.msg.bytes_length
    refine K.skip <| K.seq <| K.block <| K.seq ?_
    refine K.region ?_
    first | refine KO.q rfl (q_ix _ se_59 rfl rfl rfl isF (by repeat (first | exact List.Mem.head _ | apply List.Mem.tail)) rfl (by first | assumption | omega | exact (List.getElem?_eq_some_iff.1 (by assumption)).1 | (simp; omega))) ?_ | refine KO.q rfl (q_ix _ se_59 rfl rfl rfl isO (by repeat (first | exact List.Mem.head _ | apply List.Mem.tail)) rfl (by first | assumption | omega | exact (List.getElem?_eq_some_iff.1 (by assumption)).1 | (simp; omega))) ?_
    first | refine KO.q rfl (q_ldEN ck_63 rfl isF (by repeat (first | exact List.Mem.head _ | apply List.Mem.tail)) (by first | assumption | exact List.getElem?_eq_getElem (by first | assumption | omega | (simp; omega)))) ?_ | refine KO.q rfl (q_ldEN ck_63 rfl isO (by repeat (first | exact List.Mem.head _ | apply List.Mem.tail)) (by first | assumption | exact List.getElem?_eq_getElem (by first | assumption | omega | (simp; omega)))) ?_
    refine KO.loud rfl (l_alloc zo_63) ?_
    rintro _ _ ⟨b5, rfl, rfl⟩
    refine KO.loudN rfl (l_storeAll ck_63 rfl rfl ⟨rfl, rfl⟩ (eff_one _) (by repeat (first | exact Pick.here | apply Pick.there))) ?_
    rintro _ _ ⟨rfl, rfl⟩
    refine KO.done ?_
    refine K.seq ?_
    refine K.region ?_
    refine KO.q rfl (q_move rfl) ?_
    refine KO.q rfl (q_field fo_63_0 rfl) ?_
    refine KO.q rfl (q_load1D ck_3 rfl) ?_
    refine KO.loud rfl (OpL.callD rfl (h := wr_Int _ _ _ _ _ (by first | omega | (simp [wInt_length, wFlag_length, wText_length]; omega)))) ?_
    rintro _ _ ⟨_, ⟨q1, c1, rfl, rfl⟩, rfl⟩
    refine KO.done ?_
    refine K.seq ?_
    refine K.region ?_
    refine KO.q rfl (q_move rfl) ?_
    refine KO.q rfl (q_field fo_63_1 rfl) ?_
    refine KO.q rfl (q_load1D ck_9 rfl) ?_
    refine KO.loud rfl (OpL.callD rfl (h := wr_TextA _ _ _ _ _ (by first | omega | (simp [wInt_length, wFlag_length, wText_length]; omega)))) ?_
    rintro _ _ ⟨_, ⟨q2, c2, rfl, rfl⟩, rfl⟩
    refine KO.done ?_
    refine K.seq ?_
    refine K.region ?_
    refine KO.q rfl (q_move rfl) ?_
    refine KO.q rfl (q_field fo_63_2 rfl) ?_
    refine KO.q rfl (q_load1D ck_9 rfl) ?_
    refine KO.loud rfl (OpL.callD rfl (h := wr_TextA _ _ _ _ _ (by first | omega | (simp [wInt_length, wFlag_length, wText_length]; omega)))) ?_
    rintro _ _ ⟨_, ⟨q3, c3, rfl, rfl⟩, rfl⟩
    refine KO.done ?_
    refine K.seq ?_
    refine K.region ?_
    refine KO.q rfl (q_move rfl) ?_
    refine KO.q rfl (q_field fo_63_3 rfl) ?_
    refine KO.q rfl (q_load1D ck_9 rfl) ?_
    refine KO.loud rfl (OpL.callD rfl (h := wr_TextA _ _ _ _ _ (by first | omega | (simp [wInt_length, wFlag_length, wText_length]; omega)))) ?_
    rintro _ _ ⟨_, ⟨q4, c4, rfl, rfl⟩, rfl⟩
    refine KO.done ?_
    refine K.seq ?_
    refine K.region ?_
    refine KO.q rfl (q_move rfl) ?_
    refine KO.q rfl (q_field fo_63_4 rfl) ?_
    refine KO.q rfl (q_load1D ck_3 rfl) ?_
    refine KO.loud rfl (OpL.callD rfl (h := wr_Int _ _ _ _ _ (by first | omega | (simp [wInt_length, wFlag_length, wText_length]; omega)))) ?_
    rintro _ _ ⟨_, ⟨q5, c5, rfl, rfl⟩, rfl⟩
    refine KO.done ?_
    refine K.seq ?_
    refine K.region ?_
    refine KO.q rfl (q_move rfl) ?_
    refine KO.q rfl (q_field fo_63_5 rfl) ?_
    refine KO.q rfl (q_load1D ck_3 rfl) ?_
    refine KO.loud rfl (OpL.callD rfl (h := wr_Int _ _ _ _ _ (by first | omega | (simp [wInt_length, wFlag_length, wText_length]; omega)))) ?_
    rintro _ _ ⟨_, ⟨q6, c6, rfl, rfl⟩, rfl⟩
    refine KO.done ?_
    refine K.seq ?_
    refine K.region ?_
    refine KO.q rfl (q_move rfl) ?_
    refine KO.q rfl (q_field fo_63_6 rfl) ?_
    refine KO.q rfl (q_load1D ck_4 rfl) ?_
    refine KO.loud rfl (OpL.callD rfl (h := wr_Flag _ _ _ _ _ (by first | omega | (simp [wInt_length, wFlag_length, wText_length]; omega)))) ?_
    rintro _ _ ⟨_, ⟨q7, c7, rfl, rfl⟩, rfl⟩
    refine KO.done ?_
    refine K.region ?_
    refine KO.q rfl (q_move rfl) ?_
    refine KO.q rfl (q_field fo_63_7 rfl) ?_
    refine KO.q rfl (q_ldPS sub_eff_msg msg_sz ck_24 rfl (by repeat (first | exact List.Mem.head _ | apply List.Mem.tail))) ?_
    refine KO.loud rfl (OpL.callD rfl (h := msg_WriteA _ _ _ _ _ (by first | omega | (simp [wInt_length, wFlag_length, wText_length]; omega)))) ?_
    rintro _ _ ⟨_, ⟨q8, c8, rfl, rfl⟩, rfl⟩
    refine KO.done ?_
    refine K.inBlock ?_
    refine K.region ?_
    refine KO.q rfl (q_add rfl rfl (by first | omega | (simp; omega)) (by first | omega | (simp; omega))) ?_
    refine KO.q rfl (q_move rfl) ?_
    refine KO.done ?_
    rw [← effPre_succ he]
    exact K.weak (by repeat (first | exact Env.sub_nil _ | refine Env.sub_cons rfl ?_)) (fun w h => h.fitD) (ih ⟨(i + 1, q8, c8), by show i + 1 ≤ l.length; omega⟩ (by show l.length - (i + 1) < l.length - i; omega))
  · obtain rfl : i = l.length := by omega
    rw [effPre_all] at hpl ⊢
    refine K.exit rfl ?_
    refine K.seq ?_
    refine K.region ?_
    refine KO.q rfl (q_move rfl) ?_
    refine KO.loud rfl (OpL.callD rfl (h := wr_Bytes _ _ _ _ (by first | omega | (simp [wInt_length, wFlag_length, wText_length]; omega)))) ?_
    rintro _ _ ⟨_, ⟨q9, c9, rfl, rfl, hc9⟩, rfl⟩
    refine KO.q rfl (q_assign rfl) ?_
    refine KO.done ?_
    refine K.ret (fn := Try.f47) Try.func47 (fun a w hk hs => res1 Try.results47 hk rfl) (fun w hs => ?_)
    exact ⟨_, [RowF Kd.u8 q9 (effsBytes l)], rfl, ⟨q9, c9, rfl, rfl, hc9⟩, hs.fitD⟩
--%call poste/posteref14.EffectBytes := ref_EffectBytes _ _ _ (by first | omega | (simp; omega)) !! ⟨_, ⟨q#, c#, rfl, rfl⟩, rfl⟩
set_option maxHeartbeats 800000 in
theorem ref_EffectBytes (q : Option Addr) (cap : Nat) (l : List Eff) (hl : l.length ≤ 100000) : Fn Try.prog 48 [.slice q l.length cap].toArray [RowF Kd.eff q l]
    (fun r post => ∃ q' cap', r = .slice q' (effsBytes l).length cap' ∧ post = [RowF Kd.u8 q' (effsBytes l)]) := by
  refine Fn.enter (N := 58) Try.func48 rfl Try.ntmps48 (by kernel_rfl) rfl (fun ρ L => ?_)
  refine K.seq ?_
  refine K.region ?_
  refine KO.q rfl (q_assign rfl) ?_
  refine KO.done ?_
  refine K.seq ?_
  refine K.region ?_
  refine KO.q rfl (q_build st_52 rfl (by repeat (first | exact Fill.nil | (apply Fill.cons; rfl; rfl; rfl) | exact SetN.nil | apply SetN.cons | exact SetAt.here | apply SetAt.there))) ?_
  refine KO.loud rfl (l_box rfl rfl) ?_
  rintro _ _ ⟨b7, rfl, rfl⟩
  refine KO.q rfl (q_assign rfl) ?_
  refine KO.done ?_
  refine K.st (fun w h => rowO_nil (k := Kd.u8) 5 h) ?_
  refine K.seq ?_
  refine K.region ?_
  refine KO.q rfl (q_move rfl) ?_
  refine KO.q rfl (q_move rfl) ?_
  refine KO.q rfl (q_len Try.underlying59 rfl) ?_
  refine KO.loud rfl (OpL.callE rfl (wf_Int b7 none 0 [] _ (by simp))) ?_
  rintro _ _ ⟨_, ⟨q0, c0, rfl, rfl⟩, rfl⟩
  refine KO.done ?_
  refine K.seq <| K.seq ?_
  refine K.region ?_
  refine KO.q rfl (q_assign rfl) ?_
  refine KO.done ?_
  refine K.block ?_
  rw [effPre_zero]
  refine K.rounds2 (ι := { x : Nat × Option Addr × Nat // x.1 ≤ l.length }) (fun x => [(4, .int .i64 x.1.1), (0, .slice q l.length cap), (3, .pointer (some ⟨b7, 0, none⟩))]) (fun x => WfL b7 x.1.2.1 x.1.2.2 (effPre l x.1.1) ++ (RowF Kd.eff q l :: L)) (fun x => l.length - x.1.1) ⟨(0, q0, c0), Nat.zero_le _⟩ (by repeat (first | exact Env.sub_nil _ | refine Env.sub_cons rfl ?_)) (fun w h => h.fitD) (fun x ih => ?_)
  obtain ⟨⟨i, q', cap'⟩, hi⟩ := x
  have hpl := effPre_len l i hi
  dsimp only at hi ⊢
  refine K.seq <| K.seq ?_
  refine K.region ?_
  refine KO.q rfl (q_move rfl) ?_
  refine KO.q rfl (q_move rfl) ?_
  refine KO.q rfl (q_len Try.underlying59 rfl) ?_
  refine KO.q rfl (q_lt rfl rfl) ?_
  refine KO.done ?_
  refine K.dcond (s := 15) rfl (fun g15 => ?_) (fun g15 => ?_)
  · obtain ⟨e, he⟩ : ∃ e, l[i]? = some e := ⟨_, List.getElem?_eq_getElem (by omega)⟩
    have hml := e.msg.bytes_length
    refine K.skip <| K.seq <| K.block <| K.seq ?_
    refine K.region ?_
    refine KO.q rfl (q_move rfl) ?_
    refine KO.q rfl (q_move rfl) ?_
    first | refine KO.q rfl (q_ix _ se_59 rfl rfl rfl isF (by repeat (first | exact List.Mem.head _ | apply List.Mem.tail)) rfl (by first | assumption | omega | exact (List.getElem?_eq_some_iff.1 (by assumption)).1 | (simp; omega))) ?_ | refine KO.q rfl (q_ix _ se_59 rfl rfl rfl isO (by repeat (first | exact List.Mem.head _ | apply List.Mem.tail)) rfl (by first | assumption | omega | exact (List.getElem?_eq_some_iff.1 (by assumption)).1 | (simp; omega))) ?_
    first | refine KO.q rfl (q_ldEN ck_63 rfl isF (by repeat (first | exact List.Mem.head _ | apply List.Mem.tail)) (by first | assumption | exact List.getElem?_eq_getElem (by first | assumption | omega | (simp; omega)))) ?_ | refine KO.q rfl (q_ldEN ck_63 rfl isO (by repeat (first | exact List.Mem.head _ | apply List.Mem.tail)) (by first | assumption | exact List.getElem?_eq_getElem (by first | assumption | omega | (simp; omega)))) ?_
    refine KO.loud rfl (l_alloc zo_63) ?_
    rintro _ _ ⟨b5, rfl, rfl⟩
    refine KO.loudN rfl (l_storeAll ck_63 rfl rfl ⟨rfl, rfl⟩ (eff_one _) (by repeat (first | exact Pick.here | apply Pick.there))) ?_
    rintro _ _ ⟨rfl, rfl⟩
    refine KO.done ?_
    refine K.seq ?_
    refine K.region ?_
    refine KO.q rfl (q_move rfl) ?_
    refine KO.q rfl (q_field fo_63_0 rfl) ?_
    refine KO.q rfl (q_load1D ck_3 rfl) ?_
    refine KO.loud rfl (OpL.callD rfl (h := wf_Int _ _ _ _ _ (by first | omega | (simp [wInt_length, wFlag_length, wText_length]; omega)))) ?_
    rintro _ _ ⟨_, ⟨q1, c1, rfl, rfl⟩, rfl⟩
    refine KO.done ?_
    refine K.seq ?_
    refine K.region ?_
    refine KO.q rfl (q_move rfl) ?_
    refine KO.q rfl (q_field fo_63_1 rfl) ?_
    refine KO.q rfl (q_load1D ck_9 rfl) ?_
    refine KO.loud rfl (OpL.callD rfl (h := wf_TextA _ _ _ _ _ (by first | omega | (simp [wInt_length, wFlag_length, wText_length]; omega)))) ?_
    rintro _ _ ⟨_, ⟨q2, c2, rfl, rfl⟩, rfl⟩
    refine KO.done ?_
    refine K.seq ?_
    refine K.region ?_
    refine KO.q rfl (q_move rfl) ?_
    refine KO.q rfl (q_field fo_63_2 rfl) ?_
    refine KO.q rfl (q_load1D ck_9 rfl) ?_
    refine KO.loud rfl (OpL.callD rfl (h := wf_TextA _ _ _ _ _ (by first | omega | (simp [wInt_length, wFlag_length, wText_length]; omega)))) ?_
    rintro _ _ ⟨_, ⟨q3, c3, rfl, rfl⟩, rfl⟩
    refine KO.done ?_
    refine K.seq ?_
    refine K.region ?_
    refine KO.q rfl (q_move rfl) ?_
    refine KO.q rfl (q_field fo_63_3 rfl) ?_
    refine KO.q rfl (q_load1D ck_9 rfl) ?_
    refine KO.loud rfl (OpL.callD rfl (h := wf_TextA _ _ _ _ _ (by first | omega | (simp [wInt_length, wFlag_length, wText_length]; omega)))) ?_
    rintro _ _ ⟨_, ⟨q4, c4, rfl, rfl⟩, rfl⟩
    refine KO.done ?_
    refine K.seq ?_
    refine K.region ?_
    refine KO.q rfl (q_move rfl) ?_
    refine KO.q rfl (q_field fo_63_4 rfl) ?_
    refine KO.q rfl (q_load1D ck_3 rfl) ?_
    refine KO.loud rfl (OpL.callD rfl (h := wf_Int _ _ _ _ _ (by first | omega | (simp [wInt_length, wFlag_length, wText_length]; omega)))) ?_
    rintro _ _ ⟨_, ⟨q5, c5, rfl, rfl⟩, rfl⟩
    refine KO.done ?_
    refine K.seq ?_
    refine K.region ?_
    refine KO.q rfl (q_move rfl) ?_
    refine KO.q rfl (q_field fo_63_5 rfl) ?_
    refine KO.q rfl (q_load1D ck_3 rfl) ?_
    refine KO.loud rfl (OpL.callD rfl (h := wf_Int _ _ _ _ _ (by first | omega | (simp [wInt_length, wFlag_length, wText_length]; omega)))) ?_
    rintro _ _ ⟨_, ⟨q6, c6, rfl, rfl⟩, rfl⟩
    refine KO.done ?_
    refine K.seq ?_
    refine K.region ?_
    refine KO.q rfl (q_move rfl) ?_
    refine KO.q rfl (q_field fo_63_6 rfl) ?_
    refine KO.q rfl (q_load1D ck_4 rfl) ?_
    refine KO.loud rfl (OpL.callD rfl (h := wf_Flag _ _ _ _ _ (by first | omega | (simp [wInt_length, wFlag_length, wText_length]; omega)))) ?_
    rintro _ _ ⟨_, ⟨q7, c7, rfl, rfl⟩, rfl⟩
    refine KO.done ?_
    refine K.region ?_
    refine KO.q rfl (q_move rfl) ?_
    refine KO.q rfl (q_field fo_63_7 rfl) ?_
    refine KO.q rfl (q_ldPS sub_eff_msg msg_sz ck_24 rfl (by repeat (first | exact List.Mem.head _ | apply List.Mem.tail))) ?_
    refine KO.loud rfl (OpL.callD rfl (h := ref_putMsgA _ _ _ _ _ (by first | omega | (simp [wInt_length, wFlag_length, wText_length]; omega)))) ?_
    rintro _ _ ⟨_, ⟨q8, c8, rfl, rfl⟩, rfl⟩
    refine KO.done ?_
    refine K.inBlock ?_
    refine K.region ?_
    refine KO.q rfl (q_move rfl) ?_
    refine KO.q rfl (q_add rfl rfl (by first | omega | (simp; omega)) (by first | omega | (simp; omega))) ?_
    refine KO.q rfl (q_assign rfl) ?_
    refine KO.done ?_
    rw [← effPre_succ he]
    exact K.weak (by repeat (first | exact Env.sub_nil _ | refine Env.sub_cons rfl ?_)) (fun w h => h.fitD) (ih ⟨(i + 1, q8, c8), by show i + 1 ≤ l.length; omega⟩ (by show l.length - (i + 1) < l.length - i; omega))
  · obtain rfl : i = l.length := by omega
    rw [effPre_all]
    refine K.st (fun w h => rowO_freeze (h.pick (.there .here))) ?_
    refine K.exit rfl ?_
    refine K.seq ?_
    refine K.region ?_
    refine KO.q rfl (q_move rfl) ?_
    refine KO.q rfl (q_nilCheck rfl) ?_
    refine KO.q rfl (q_field fo_52_0 rfl) ?_
    refine KO.q rfl (q_load1D ck_25 rfl) ?_
    refine KO.q rfl (q_assign rfl) ?_
    refine KO.done ?_
    refine K.ret (fn := Try.f48) Try.func48 (fun a w hk hs => res1 Try.results48 hk rfl) (fun w hs => ?_)
    exact ⟨_, [RowF Kd.u8 q' (effsBytes l)], rfl, ⟨q', cap', rfl, rfl⟩, hs.fitD⟩
end Go.Proofs.Ytlellgnklohclaa.L
/-! Walks: changes read, by the program and by the document. -/
namespace Go.Proofs.Ytlellgnklohclaa.L
open Go Go.Proofs
attribute [local irreducible] pv fv pt fz RowF RowO rowP old pure_ elA Rd.int Rd.text Rd.flag Rd.msg Rd.rint Rd.rtext Rd.rflag Rd.rmsg
set_option maxRecDepth 100000
set_option linter.unusedSimpArgs false
set_option linter.unusedVariables false

--%kd uint8 Kd.u8
--%call poste/effect.read := eff_read _ _ _ _ (by assumption) !! ⟨_, ⟨q#, c#, rfl, rfl, hc#⟩, rfl⟩
set_option maxHeartbeats 800000 in
theorem eff_read (p : Nat) (q : Option Addr) (cap : Nat) (s : Rd) (hc : s.bs.length ≤ cap) : Fn Try.prog 82 [.pointer (some ⟨p, 0, none⟩)].toArray (RdL p q cap s)
    (fun r post => ∃ q' cap', r = .agg s.eff.1.cells.toArray ∧ post = RdL p q' cap' s.eff.2 ∧ s.eff.2.bs.length ≤ cap') := by
  refine Fn.enter (N := 29) Try.func82 rfl Try.ntmps82 (by kernel_rfl) rfl (fun ρ L => ?_)
  refine K.seq ?_
  refine K.region ?_
  refine KO.loud rfl (l_alloc zo_63) ?_
  rintro _ _ ⟨b2, rfl, rfl⟩
  refine KO.done ?_
  refine K.seq ?_
  refine K.region ?_
  refine KO.q rfl (q_move rfl) ?_
  refine KO.loud rfl (OpL.callD rfl (h := rd_Int _ _ _ _ (by assumption))) ?_
  rintro _ _ ⟨_, ⟨q1, c1, rfl, rfl, hc1⟩, rfl⟩
  refine KO.q rfl (q_as_eff (q_build st_63 rfl (by repeat (first | exact Fill.nil | (apply Fill.cons; rfl; rfl; rfl) | exact SetN.nil | apply SetN.cons | exact SetAt.here | apply SetAt.there))) (by rfl)) ?_
  refine KO.loud rfl (l_alloc zo_63) ?_
  rintro _ _ ⟨b3, rfl, rfl⟩
  refine KO.loudN rfl (l_storeAll ck_63 rfl rfl ⟨rfl, rfl⟩ (eff_one _) (by repeat (first | exact Pick.here | apply Pick.there))) ?_
  rintro _ _ ⟨rfl, rfl⟩
  refine KO.done ?_
  refine K.seq ?_
  refine K.region ?_
  refine KO.q rfl (q_move rfl) ?_
  refine KO.loud rfl (OpL.callD rfl (h := rd_Text _ _ _ _ (by assumption))) ?_
  rintro _ _ ⟨_, ⟨q2, c2, rfl, rfl, hc2⟩, rfl⟩
  refine KO.q rfl (q_field fo_63_1 rfl) ?_
  refine KO.loudN rfl (l_store1 ck_9 rfl rfl rfl (by repeat (first | exact Pick.here | apply Pick.there)) (by repeat (first | exact SetAt.here | apply SetAt.there))) ?_
  rintro _ _ ⟨rfl, rfl⟩
  refine KO.done ?_
  refine K.seq ?_
  refine K.region ?_
  refine KO.q rfl (q_move rfl) ?_
  refine KO.loud rfl (OpL.callD rfl (h := rd_Text _ _ _ _ (by assumption))) ?_
  rintro _ _ ⟨_, ⟨q3, c3, rfl, rfl, hc3⟩, rfl⟩
  refine KO.q rfl (q_field fo_63_2 rfl) ?_
  refine KO.loudN rfl (l_store1 ck_9 rfl rfl rfl (by repeat (first | exact Pick.here | apply Pick.there)) (by repeat (first | exact SetAt.here | apply SetAt.there))) ?_
  rintro _ _ ⟨rfl, rfl⟩
  refine KO.done ?_
  refine K.seq ?_
  refine K.region ?_
  refine KO.q rfl (q_move rfl) ?_
  refine KO.loud rfl (OpL.callD rfl (h := rd_Text _ _ _ _ (by assumption))) ?_
  rintro _ _ ⟨_, ⟨q4, c4, rfl, rfl, hc4⟩, rfl⟩
  refine KO.q rfl (q_field fo_63_3 rfl) ?_
  refine KO.loudN rfl (l_store1 ck_9 rfl rfl rfl (by repeat (first | exact Pick.here | apply Pick.there)) (by repeat (first | exact SetAt.here | apply SetAt.there))) ?_
  rintro _ _ ⟨rfl, rfl⟩
  refine KO.done ?_
  refine K.seq ?_
  refine K.region ?_
  refine KO.q rfl (q_move rfl) ?_
  refine KO.loud rfl (OpL.callD rfl (h := rd_Int _ _ _ _ (by assumption))) ?_
  rintro _ _ ⟨_, ⟨q5, c5, rfl, rfl, hc5⟩, rfl⟩
  refine KO.q rfl (q_field fo_63_4 rfl) ?_
  refine KO.loudN rfl (l_store1 ck_3 rfl rfl rfl (by repeat (first | exact Pick.here | apply Pick.there)) (by repeat (first | exact SetAt.here | apply SetAt.there))) ?_
  rintro _ _ ⟨rfl, rfl⟩
  refine KO.done ?_
  refine K.seq ?_
  refine K.region ?_
  refine KO.q rfl (q_move rfl) ?_
  refine KO.loud rfl (OpL.callD rfl (h := rd_Int _ _ _ _ (by assumption))) ?_
  rintro _ _ ⟨_, ⟨q6, c6, rfl, rfl, hc6⟩, rfl⟩
  refine KO.q rfl (q_field fo_63_5 rfl) ?_
  refine KO.loudN rfl (l_store1 ck_3 rfl rfl rfl (by repeat (first | exact Pick.here | apply Pick.there)) (by repeat (first | exact SetAt.here | apply SetAt.there))) ?_
  rintro _ _ ⟨rfl, rfl⟩
  refine KO.done ?_
  refine K.seq ?_
  refine K.region ?_
  refine KO.q rfl (q_move rfl) ?_
  refine KO.loud rfl (OpL.callD rfl (h := rd_Flag _ _ _ _ (by assumption))) ?_
  rintro _ _ ⟨_, ⟨q7, c7, rfl, rfl, hc7⟩, rfl⟩
  refine KO.q rfl (q_field fo_63_6 rfl) ?_
  refine KO.loudN rfl (l_store1 ck_4 rfl rfl rfl (by repeat (first | exact Pick.here | apply Pick.there)) (by repeat (first | exact SetAt.here | apply SetAt.there))) ?_
  rintro _ _ ⟨rfl, rfl⟩
  refine KO.done ?_
  refine K.seq ?_
  refine K.region ?_
  refine KO.q rfl (q_move rfl) ?_
  refine KO.loud rfl (OpL.callD rfl (h := msg_Read _ _ _ _ (by assumption))) ?_
  rintro _ _ ⟨_, ⟨q8, c8, rfl, rfl, hc8⟩, rfl⟩
  refine KO.q rfl (q_field fo_63_7 rfl) ?_
  refine KO.loudN rfl (l_storeN ck_24 rfl rfl rfl (msg_one _) (by repeat (first | exact Pick.here | apply Pick.there)) (by repeat (first | exact SetN.nil | apply SetN.cons | exact SetAt.here | apply SetAt.there))) ?_
  rintro _ _ ⟨rfl, rfl⟩
  refine KO.done ?_
  refine K.seq ?_
  refine K.region ?_
  refine KO.q rfl (q_as_eff (q_loadN ck_63 rfl rfl (by first | (apply cells_pv; (repeat (first | exact List.Mem.head _ | apply List.Mem.tail))) | (apply cells_fv; (repeat (first | exact List.Mem.head _ | apply List.Mem.tail))))) (by rfl)) ?_
  refine KO.loudN rfl (l_storeAll ck_63 rfl rfl ⟨rfl, rfl⟩ (eff_one _) (by repeat (first | exact Pick.here | apply Pick.there))) ?_
  rintro _ _ ⟨rfl, rfl⟩
  refine KO.done ?_
  refine K.ret (fn := Try.f82) Try.func82 (fun a w hk hs => resC Try.results82 hk rfl ck_63 rfl (cells_pv (by repeat (first | exact List.Mem.head _ | apply List.Mem.tail)) w hs)) (fun w hs => ?_)
  exact ⟨_, RdL p q8 c8 s.eff.2, rfl, ⟨q8, c8, rfl, rfl, hc8⟩, hs.fitD⟩
theorem reff_fold (s : Rd) : (⟨s.rint.1, s.rint.2.rtext.1, s.rint.2.rtext.2.rtext.1, s.rint.2.rtext.2.rtext.2.rtext.1, s.rint.2.rtext.2.rtext.2.rtext.2.rint.1, s.rint.2.rtext.2.rtext.2.rtext.2.rint.2.rint.1, s.rint.2.rtext.2.rtext.2.rtext.2.rint.2.rint.2.rflag.1, s.rint.2.rtext.2.rtext.2.rtext.2.rint.2.rint.2.rflag.2.rmsg.1⟩ : Eff) = s.reff.1 := rfl
theorem reff_fold2 (s : Rd) : s.rint.2.rtext.2.rtext.2.rtext.2.rint.2.rint.2.rflag.2.rmsg.2 = s.reff.2 := rfl
attribute [local irreducible] Rd.eff Rd.reff
set_option maxHeartbeats 800000 in
theorem eff_Read (q : Option Addr) (cap : Nat) (bs : List UInt8) (hb : bs.length ≤ 1099511627776) : Fn Try.prog 49 [.slice q bs.length cap].toArray [RowF Kd.u8 q bs]
    (fun r post => ∃ q' cap', r = .tuple #[.slice q' ((effRead bs).getD []).length cap', .int .i64 (if (effRead bs).isSome then 0 else 11)] ∧ post = [RowF Kd.eff q' ((effRead bs).getD [])] ∧ ((effRead bs).getD []).length ≤ cap') := by
  obtain ⟨n0, s0, ha⟩ : ∃ n0 s0, Rd.int ⟨bs, false⟩ = (n0, s0) := ⟨_, _, rfl⟩
  refine Fn.enter (N := 43) Try.func49 rfl Try.ntmps49 (by kernel_rfl) rfl (fun ρ L => ?_)
  refine K.seq ?_
  refine K.region ?_
  refine KO.q rfl (q_assign rfl) ?_
  refine KO.q rfl (q_assign rfl) ?_
  refine KO.done ?_
  refine K.seq ?_
  refine K.region ?_
  refine KO.q rfl (q_move rfl) ?_
  refine KO.loud rfl (OpL.callD rfl (h := rd_New _ _ _ (by first | omega | (simp; omega)))) ?_
  rintro _ _ ⟨_, ⟨p1, q1, c1, rfl, rfl, hc1⟩, rfl⟩
  refine KO.q rfl (q_assign rfl) ?_
  refine KO.done ?_
  refine K.seq ?_
  refine K.region ?_
  refine KO.q rfl (q_move rfl) ?_
  refine KO.loud rfl (OpL.callD rfl (h := rd_Int _ _ _ _ (by assumption))) ?_
  rintro _ _ ⟨_, ⟨q2, c2, rfl, rfl, hc2⟩, rfl⟩
  refine KO.q rfl (q_assign rfl) ?_
  refine KO.done ?_
  simp only [ha] at hc2 ⊢
  refine K.seq <| K.seq ?_
  refine K.region ?_
  refine KO.q rfl (q_move rfl) ?_
  refine KO.loud rfl (OpL.callD rfl (h := rd_Failed _ _ _ _)) ?_
  rintro _ _ ⟨_, ⟨rfl, rfl⟩, rfl⟩
  refine KO.q rfl (q_move rfl) ?_
  refine KO.split 14 rfl (fun g14 => ?_) (fun g14 => ?_)
  · refine KO.skip rfl ?_
    refine KO.skip rfl ?_
    refine KO.q rfl (q_pickT rfl rfl) ?_
    refine KO.q rfl (q_move rfl) ?_
    refine KO.skip rfl ?_
    refine KO.skip rfl ?_
    refine KO.q rfl (q_pickT rfl rfl) ?_
    refine KO.done ?_
    refine K.yes rfl ?_
    refine K.seq ?_
    have hr : effRead bs = none := by rw [effRead_of ha, if_pos (by simp [*])]
    refine K.region ?_
    refine KO.q rfl (q_assign rfl) ?_
    refine KO.q rfl (q_assign rfl) ?_
    refine KO.done ?_
    refine K.ret (fn := Try.f49) Try.func49 (fun a w hk hs => res2 Try.results49 hk rfl rfl) (fun w hs => ?_)
    rw [hr]
    first
      | exact ⟨_, [RowF Kd.eff none []], rfl, ⟨none, 0, rfl, rfl, Nat.le_refl _⟩, (rowF_nil (k := Kd.eff) none hs).fitD⟩
      | exact ⟨_, [RowF Kd.eff p2 acc], rfl, ⟨p2, cap2, rfl, rfl, hcap⟩, hs.fitD⟩
  · refine KO.q rfl (q_move rfl) ?_
    refine KO.q rfl (q_lt rfl rfl) ?_
    refine KO.q rfl (q_pickF rfl rfl) ?_
    refine KO.q rfl (q_move rfl) ?_
    refine KO.dsplit 18 rfl (fun g18 => ?_) (fun g18 => ?_)
    · refine KO.skip rfl ?_
      refine KO.skip rfl ?_
      refine KO.q rfl (q_pickT rfl rfl) ?_
      refine KO.done ?_
      refine K.yes rfl ?_
      refine K.seq ?_
      have hr : effRead bs = none := by rw [effRead_of ha, if_pos (by simp [*])]
      refine K.region ?_
      refine KO.q rfl (q_assign rfl) ?_
      refine KO.q rfl (q_assign rfl) ?_
      refine KO.done ?_
      refine K.ret (fn := Try.f49) Try.func49 (fun a w hk hs => res2 Try.results49 hk rfl rfl) (fun w hs => ?_)
      rw [hr]
      first
        | exact ⟨_, [RowF Kd.eff none []], rfl, ⟨none, 0, rfl, rfl, Nat.le_refl _⟩, (rowF_nil (k := Kd.eff) none hs).fitD⟩
        | exact ⟨_, [RowF Kd.eff p2 acc], rfl, ⟨p2, cap2, rfl, rfl, hcap⟩, hs.fitD⟩
    · refine KO.q rfl (q_move rfl) ?_
      refine KO.q rfl (q_gt rfl rfl) ?_
      refine KO.q rfl (q_pickF rfl rfl) ?_
      refine KO.done ?_
      refine K.dcond (s := 21) rfl (fun g21 => ?_) (fun g21 => ?_)
      · refine K.seq ?_
        have hr : effRead bs = none := by rw [effRead_of ha, if_pos (by simp [*])]
        refine K.region ?_
        refine KO.q rfl (q_assign rfl) ?_
        refine KO.q rfl (q_assign rfl) ?_
        refine KO.done ?_
        refine K.ret (fn := Try.f49) Try.func49 (fun a w hk hs => res2 Try.results49 hk rfl rfl) (fun w hs => ?_)
        rw [hr]
        first
          | exact ⟨_, [RowF Kd.eff none []], rfl, ⟨none, 0, rfl, rfl, Nat.le_refl _⟩, (rowF_nil (k := Kd.eff) none hs).fitD⟩
          | exact ⟨_, [RowF Kd.eff p2 acc], rfl, ⟨p2, cap2, rfl, rfl, hcap⟩, hs.fitD⟩
      · refine K.skip <| K.seq ?_
        refine K.region ?_
        refine KO.q rfl (q_assign rfl) ?_
        refine KO.done ?_
        refine K.seq <| K.seq ?_
        have hc : ¬ (s0.f = true ∨ n0 < 0 ∨ 10000 < n0) := by
          rintro (h | h | h)
          · simp_all
          · omega
          · omega
        have hr0 := effRead_of ha
        rw [if_neg hc] at hr0
        obtain ⟨n, rfl⟩ : ∃ n : Nat, n0 = n := ⟨n0.toNat, by omega⟩
        rw [Int.toNat_natCast] at hr0
        refine K.st (fun w h => rowO_nil (k := Kd.eff) 63 h) ?_
        refine K.region ?_
        refine KO.q rfl (q_move rfl) ?_
        refine KO.q rfl (q_move rfl) ?_
        refine KO.done ?_
        refine K.block ?_
        refine K.rounds2 (ι := { x : Nat × List Eff × Rd × Option Addr × Nat × Option Addr × Nat // x.1 ≤ n ∧ x.2.1.length = x.1 ∧ x.2.2.1.bs.length ≤ x.2.2.2.2.1 ∧ Rd.effs n s0 = ((Rd.effs (n - x.1) x.2.2.1).1.map (x.2.1 ++ ·), (Rd.effs (n - x.1) x.2.2.1).2) }) (fun x => [(23, .int .i64 x.1.1), (22, .int .i64 n), (6, .slice x.1.2.2.2.2.2.1 x.1.2.1.length x.1.2.2.2.2.2.2), (4, .pointer (some ⟨p1, 0, none⟩))]) (fun x => RdL p1 x.1.2.2.2.1 x.1.2.2.2.2.1 x.1.2.2.1 ++ [RowO Kd.eff 63 x.1.2.2.2.2.2.1 x.1.2.2.2.2.2.2 x.1.2.1] ++ L) (fun x => n - x.1.1) ⟨(0, [], s0, q2, c2, none, 0), Nat.zero_le _, rfl, hc2, by simp⟩ (by repeat (first | exact Env.sub_nil _ | refine Env.sub_cons rfl ?_)) (fun w h => h.fitD) (fun x ih => ?_)
        obtain ⟨⟨i, acc, s, q', c', p2, cap2⟩, hi, hl, hcs, hinv⟩ := x
        dsimp only at hi hl hcs hinv ⊢
        refine K.seq ?_
        refine K.region ?_
        refine KO.q rfl (q_lt rfl rfl) ?_
        refine KO.done ?_
        refine K.seq ?_
        refine K.dcond (s := 24) rfl (fun g24 => ?_) (fun g24 => ?_)
        · have hst := effs_succ (n - (i + 1)) s
          rw [show n - (i + 1) + 1 = n - i by omega] at hst
          refine K.skip <| K.seq <| K.block <| K.seq ?_
          refine K.region ?_
          refine KO.q rfl (q_move rfl) ?_
          refine KO.loud rfl (OpL.callD rfl (h := eff_read _ _ _ _ (by assumption))) ?_
          rintro _ _ ⟨_, ⟨q4, c4, rfl, rfl, hc4⟩, rfl⟩
          refine KO.loud rfl (l_alloc zo_63) ?_
          rintro _ _ ⟨b7, rfl, rfl⟩
          refine KO.loudN rfl (l_storeAll ck_63 rfl rfl ⟨rfl, rfl⟩ (eff_one _) (by repeat (first | exact Pick.here | apply Pick.there))) ?_
          rintro _ _ ⟨rfl, rfl⟩
          refine KO.done ?_
          refine K.seq <| K.seq ?_
          refine K.region ?_
          refine KO.q rfl (q_move rfl) ?_
          refine KO.loud rfl (OpL.callD rfl (h := rd_Failed _ _ _ _)) ?_
          rintro _ _ ⟨_, ⟨rfl, rfl⟩, rfl⟩
          refine KO.q rfl (q_move rfl) ?_
          refine KO.split 29 rfl (fun g29 => ?_) (fun g29 => ?_)
          · refine KO.skip rfl ?_
            refine KO.skip rfl ?_
            refine KO.skip rfl ?_
            refine KO.q rfl (q_pickT rfl rfl) ?_
            refine KO.done ?_
            refine K.yes rfl ?_
            refine K.seq ?_
            have hr : effRead bs = none := by
              rw [hr0, hinv, hst, if_pos (by simp [*])]
              rfl
            refine K.region ?_
            refine KO.q rfl (q_assign rfl) ?_
            refine KO.q rfl (q_assign rfl) ?_
            refine KO.done ?_
            refine K.ret (fn := Try.f49) Try.func49 (fun a w hk hs => res2 Try.results49 hk rfl rfl) (fun w hs => ?_)
            rw [hr]
            first
              | exact ⟨_, [RowF Kd.eff none []], rfl, ⟨none, 0, rfl, rfl, Nat.le_refl _⟩, (rowF_nil (k := Kd.eff) none hs).fitD⟩
              | exact ⟨_, [RowF Kd.eff p2 acc], rfl, ⟨p2, cap2, rfl, rfl, hcap⟩, hs.fitD⟩
          · refine KO.q rfl (q_loadN ck_63 rfl rfl (by first | (apply cells_pv; (repeat (first | exact List.Mem.head _ | apply List.Mem.tail))) | (apply cells_fv; (repeat (first | exact List.Mem.head _ | apply List.Mem.tail))))) ?_
            refine KO.loud rfl (OpL.callD rfl (h := eff_Right _)) ?_
            rintro _ _ ⟨_, ⟨rfl, rfl⟩, rfl⟩
            refine KO.q rfl (q_not rfl) ?_
            refine KO.q rfl (q_pickF rfl rfl) ?_
            refine KO.done ?_
            refine K.bcond (s := 33) rfl (fun g33 => ?_) (fun g33 => ?_)
            · refine K.seq ?_
              have hr : effRead bs = none := by
                rw [hr0, hinv, hst, if_pos (by simp [*])]
                rfl
              refine K.region ?_
              refine KO.q rfl (q_assign rfl) ?_
              refine KO.q rfl (q_assign rfl) ?_
              refine KO.done ?_
              refine K.ret (fn := Try.f49) Try.func49 (fun a w hk hs => res2 Try.results49 hk rfl rfl) (fun w hs => ?_)
              rw [hr]
              first
                | exact ⟨_, [RowF Kd.eff none []], rfl, ⟨none, 0, rfl, rfl, Nat.le_refl _⟩, (rowF_nil (k := Kd.eff) none hs).fitD⟩
                | exact ⟨_, [RowF Kd.eff p2 acc], rfl, ⟨p2, cap2, rfl, rfl, hcap⟩, hs.fitD⟩
            · refine K.skip ?_
              refine K.region ?_
              refine KO.q rfl (q_move rfl) ?_
              refine KO.q rfl (q_loadN ck_63 rfl rfl (by first | (apply cells_pv; (repeat (first | exact List.Mem.head _ | apply List.Mem.tail))) | (apply cells_fv; (repeat (first | exact List.Mem.head _ | apply List.Mem.tail))))) ?_
              refine KO.loud rfl (l_slice1 sz_59_1 rfl rfl ⟨rfl, rfl, rfl⟩) ?_
              rintro _ _ ⟨b36, rfl, rfl⟩
              refine KO.loud rfl (l_append Kd.eff se_59 Try.underlying59 ⟨_, ze_63, rfl⟩ (by decide) rfl rfl (by repeat (first | exact Pick.here | apply Pick.there)) isP (by repeat (first | exact List.Mem.head _ | apply List.Mem.tail)) rfl rfl (by simp; omega)) ?_
              rintro _ _ ⟨p3, cap3, rfl, rfl⟩
              refine KO.q rfl (q_assign rfl) ?_
              refine KO.done ?_
              refine K.inBlock ?_
              refine K.region ?_
              refine KO.q rfl (q_add rfl rfl (by first | omega | (simp; omega)) (by first | omega | (simp; omega))) ?_
              refine KO.q rfl (q_move rfl) ?_
              refine KO.done ?_
              have hst2 : Rd.effs (n - i) s = ((Rd.effs (n - (i + 1)) s.eff.2).1.map (s.eff.1 :: ·), (Rd.effs (n - (i + 1)) s.eff.2).2) := by rw [hst, if_neg (by simp_all)]
              refine K.weak ?_ ?_ (ih ⟨(i + 1, acc ++ [s.eff.1], s.eff.2, q4, c4, p3, cap3), ?_, ?_, ?_, ?_⟩ ?_)
              · exact (by repeat (first | exact Env.sub_nil _ | refine Env.sub_cons rfl ?_))
              · intro w h
                exact h.fitD
              · show i + 1 ≤ n
                omega
              · show (acc ++ [s.eff.1]).length = i + 1
                simp [hl]
              · assumption
              · show Rd.effs n s0 = ((Rd.effs (n - (i + 1)) s.eff.2).1.map (acc ++ [s.eff.1] ++ ·), (Rd.effs (n - (i + 1)) s.eff.2).2)
                rw [hinv, hst2]
                cases (Rd.effs (n - (i + 1)) s.eff.2).1 <;> simp
              · show n - (i + 1) < n - i
                omega
        · have hz : Rd.effs n s0 = (some acc, s) := by
            rw [hinv, show n - i = 0 by omega]
            simp [effs_zero]
          refine K.exit rfl ?_
          refine K.seq <| K.seq ?_
          refine K.region ?_
          refine KO.q rfl (q_move rfl) ?_
          refine KO.loud rfl (OpL.callD rfl (h := rd_Done _ _ _ _)) ?_
          rintro _ _ ⟨_, ⟨rfl, rfl⟩, rfl⟩
          refine KO.q rfl (q_not rfl) ?_
          refine KO.done ?_
          refine K.bcond (s := 41) rfl (fun g41 => ?_) (fun g41 => ?_)
          · refine K.seq ?_
            have hr : effRead bs = none := by
              rw [hr0, hz]
              dsimp only
              rw [if_neg (by simpa using g41)]
            refine K.region ?_
            refine KO.q rfl (q_assign rfl) ?_
            refine KO.q rfl (q_assign rfl) ?_
            refine KO.done ?_
            refine K.ret (fn := Try.f49) Try.func49 (fun a w hk hs => res2 Try.results49 hk rfl rfl) (fun w hs => ?_)
            rw [hr]
            first
              | exact ⟨_, [RowF Kd.eff none []], rfl, ⟨none, 0, rfl, rfl, Nat.le_refl _⟩, (rowF_nil (k := Kd.eff) none hs).fitD⟩
              | exact ⟨_, [RowF Kd.eff p2 acc], rfl, ⟨p2, cap2, rfl, rfl, hcap⟩, hs.fitD⟩
          · refine K.skip <| K.seq ?_
            have hr : effRead bs = some acc := by
              rw [hr0, hz]
              dsimp only
              rw [if_pos (by simpa using g41)]
            refine K.fact (rowO_cap (by repeat (first | exact List.Mem.head _ | apply List.Mem.tail))) (fun hcap => ?_)
            refine K.st (fun w h => rowO_freeze (h.pick (by repeat (first | exact Pick.here | apply Pick.there)))) ?_
            refine K.region ?_
            refine KO.q rfl (q_move rfl) ?_
            refine KO.q rfl (q_assign rfl) ?_
            refine KO.q rfl (q_assign rfl) ?_
            refine KO.done ?_
            refine K.ret (fn := Try.f49) Try.func49 (fun a w hk hs => res2 Try.results49 hk rfl rfl) (fun w hs => ?_)
            rw [hr]
            first
              | exact ⟨_, [RowF Kd.eff none []], rfl, ⟨none, 0, rfl, rfl, Nat.le_refl _⟩, (rowF_nil (k := Kd.eff) none hs).fitD⟩
              | exact ⟨_, [RowF Kd.eff p2 acc], rfl, ⟨p2, cap2, rfl, rfl, hcap⟩, hs.fitD⟩
theorem effRef_of {b : List UInt8} {n : Int} {s : Rd} (h : Rd.rint ⟨b, false⟩ = (n, s)) : effRead b = if n < 0 ∨ 10000 < n then none else if (!(Rd.reffs n.toNat [] true s).2.2.done || !(Rd.reffs n.toNat [] true s).2.1) = true then none else some (Rd.reffs n.toNat [] true s).1 := by
  rw [← effRef_eq]
  unfold effRef
  simp only [h]
--%call poste/effect.Read := eff_Read _ _ _ (by first | omega | (simp; omega)) !! ⟨_, ⟨q#, c#, rfl, rfl, hc#⟩, rfl⟩
theorem eff_Read_none (q : Option Addr) (cap : Nat) (bs : List UInt8) (hb : bs.length ≤ 1099511627776) (h : effRead bs = none) : Fn Try.prog 49 [.slice q bs.length cap].toArray [RowF Kd.u8 q bs]
    (fun r post => ∃ q' cap', r = .tuple #[.slice q' 0 cap', .int .i64 11] ∧ post = [RowF Kd.eff q' []]) :=
  (eff_Read q cap bs hb).mono fun r post ⟨q', c', h1, h2, _⟩ => ⟨q', c', by rw [h1, h]; rfl, by rw [h2, h]; rfl⟩
theorem eff_Read_some (q : Option Addr) (cap : Nat) (bs : List UInt8) (hb : bs.length ≤ 1099511627776) {l : List Eff} (h : effRead bs = some l) : Fn Try.prog 49 [.slice q bs.length cap].toArray [RowF Kd.u8 q bs]
    (fun r post => ∃ q' cap', r = .tuple #[.slice q' l.length cap', .int .i64 0] ∧ post = [RowF Kd.eff q' l] ∧ l.length ≤ cap') :=
  (eff_Read q cap bs hb).mono fun r post ⟨q', c', h1, h2, h3⟩ => ⟨q', c', by rw [h1, h]; rfl, by rw [h2, h]; rfl, by rw [h] at h3; exact h3⟩
end Go.Proofs.Ytlellgnklohclaa.L
/-! Walks: small ones of the law: are two lists of changes one, is a list too long. -/
namespace Go.Proofs.Ytlellgnklohclaa.L
open Go Go.Proofs
attribute [local irreducible] pv fv pt fz RowF RowO rowP old pure_ elA
set_option maxRecDepth 100000
set_option linter.unusedSimpArgs false
set_option linter.unusedVariables false

theorem list_ne_at {α : Type} {a b : List α} {i : Nat} {x y : α} (h1 : a[i]? = some x) (h2 : b[i]? = some y) (h : ¬ x = y) : ¬ a = b := by
  rintro rfl
  rw [h1] at h2
  exact h (Option.some.inj h2)
theorem take_step {α : Type} {a b : List α} {i : Nat} {x y : α} (h1 : a[i]? = some x) (h2 : b[i]? = some y) (h : x = y) (ht : a.take i = b.take i) : a.take (i + 1) = b.take (i + 1) := by
  rw [List.take_add_one, List.take_add_one, h1, h2, ht, h]
--%call poste/postelaw18.num := num18 _
theorem num18 (n : Int) : Fn Try.prog 50 [.int .i64 n].toArray [] (fun r post => r = .int .i64 n ∧ post = []) := by
  refine Fn.enter (N := 4) Try.func50 rfl Try.ntmps50 (by kernel_rfl) rfl (fun ρ L => ?_)
  refine K.seq ?_
  refine K.region ?_
  refine KO.q rfl (q_assign rfl) ?_
  refine KO.done ?_
  refine K.seq ?_
  refine K.region ?_
  refine KO.q rfl (q_move rfl) ?_
  refine KO.q rfl (q_assign rfl) ?_
  refine KO.done ?_
  refine K.ret (fn := Try.f50) Try.func50 (fun a w hk hs => res1 Try.results50 hk rfl) (fun w hs => ?_)
  exact ⟨_, [], rfl, ⟨rfl, rfl⟩, hs.fitD⟩
--%call poste/posteref14.SameEffects := ref_SameEffects _ _ _ _ _ _ (by first | omega | (simp; omega))
theorem ref_SameEffects (q1 q2 : Option Addr) (c1 c2 : Nat) (a b : List Eff) (hl : (a.length : Int) ≤ 9223372036854775807) : Fn Try.prog 51 [.slice q1 a.length c1, .slice q2 b.length c2].toArray [RowF Kd.eff q1 a, RowF Kd.eff q2 b] (fun r post => r = .bool (decide (a = b)) ∧ post = []) := by
  refine Fn.enter (N := 26) Try.func51 rfl Try.ntmps51 (by kernel_rfl) rfl (fun ρ L => ?_)
  refine K.seq ?_
  refine K.region ?_
  refine KO.q rfl (q_assign rfl) ?_
  refine KO.done ?_
  refine K.seq <| K.seq ?_
  refine K.region ?_
  refine KO.q rfl (q_move rfl) ?_
  refine KO.q rfl (q_len Try.underlying59 rfl) ?_
  refine KO.q rfl (q_move rfl) ?_
  refine KO.q rfl (q_len Try.underlying59 rfl) ?_
  refine KO.q rfl (q_ne rfl rfl) ?_
  refine KO.done ?_
  refine K.dcond (s := 10) rfl (fun g10 => ?_) (fun g10 => ?_)
  · refine K.seq ?_
    have hr : decide (a = b) = false := decide_eq_false (by rintro rfl; exact g10 rfl)
    refine K.region ?_
    refine KO.q rfl (q_assign rfl) ?_
    refine KO.done ?_
    refine K.ret (fn := Try.f51) Try.func51 (fun a w hk hs => res1 Try.results51 hk rfl) (fun w hs => ?_)
    rw [hr]
    exact ⟨_, [], rfl, ⟨rfl, rfl⟩, hs.fitD⟩
  · refine K.skip <| K.seq <| K.seq ?_
    refine K.region ?_
    refine KO.q rfl (q_assign rfl) ?_
    refine KO.done ?_
    refine K.block ?_
    refine K.rloop (ι := { i : Nat // i ≤ a.length ∧ a.take i = b.take i }) (fun x => [(5, .int .i64 x.1), (0, .slice q1 a.length c1), (1, .slice q2 b.length c2)]) (fun x => a.length - x.1) ⟨0, Nat.zero_le _, rfl⟩ (by repeat (first | exact Env.sub_nil _ | refine Env.sub_cons rfl ?_)) (fun x ih => ?_)
    obtain ⟨i, hi, ht⟩ := x
    dsimp only at hi ht ⊢
    refine K.seq <| K.seq ?_
    refine K.region ?_
    refine KO.q rfl (q_move rfl) ?_
    refine KO.q rfl (q_move rfl) ?_
    refine KO.q rfl (q_len Try.underlying59 rfl) ?_
    refine KO.q rfl (q_lt rfl rfl) ?_
    refine KO.done ?_
    refine K.dcond (s := 14) rfl (fun g14 => ?_) (fun g14 => ?_)
    · obtain ⟨e1, he1⟩ : ∃ e, a[i]? = some e := ⟨_, List.getElem?_eq_getElem (by omega)⟩
      obtain ⟨e2, he2⟩ : ∃ e, b[i]? = some e := ⟨_, List.getElem?_eq_getElem (by omega)⟩
      refine K.skip <| K.seq <| K.block <| K.seq ?_
      refine K.drawU (by repeat (first | apply SubL.pers | apply SubL.drop | exact SubL.none)) mixed ?_
      refine D.q 0 rfl (by kernel_rfl) (by kernel_rfl) (q_move rfl) (fun _ h => h.subD) ?_
      refine D.q 1 rfl (by kernel_rfl) (by kernel_rfl) (q_move rfl) (fun _ h => h.subD) ?_
      first | refine D.q 2 rfl (by kernel_rfl) (by kernel_rfl) (q_ix _ se_59 rfl rfl rfl isF (by repeat (first | exact List.Mem.head _ | apply List.Mem.tail)) rfl (by first | assumption | omega | exact (List.getElem?_eq_some_iff.1 (by assumption)).1 | (simp; omega))) (fun _ h => h.subD) ?_ | refine D.q 2 rfl (by kernel_rfl) (by kernel_rfl) (q_ix _ se_59 rfl rfl rfl isO (by repeat (first | exact List.Mem.head _ | apply List.Mem.tail)) rfl (by first | assumption | omega | exact (List.getElem?_eq_some_iff.1 (by assumption)).1 | (simp; omega))) (fun _ h => h.subD) ?_
      first | refine D.q 3 rfl (by kernel_rfl) (by kernel_rfl) (q_ldEN ck_63 rfl isF (by repeat (first | exact List.Mem.head _ | apply List.Mem.tail)) (by first | assumption | exact List.getElem?_eq_getElem (by first | assumption | omega | (simp; omega)))) (fun _ h => h.subD) ?_ | refine D.q 3 rfl (by kernel_rfl) (by kernel_rfl) (q_ldEN ck_63 rfl isO (by repeat (first | exact List.Mem.head _ | apply List.Mem.tail)) (by first | assumption | exact List.getElem?_eq_getElem (by first | assumption | omega | (simp; omega)))) (fun _ h => h.subD) ?_
      refine D.q 4 rfl (by kernel_rfl) (by kernel_rfl) (q_move rfl) (fun _ h => h.subD) ?_
      refine D.q 5 rfl (by kernel_rfl) (by kernel_rfl) (q_move rfl) (fun _ h => h.subD) ?_
      first | refine D.q 6 rfl (by kernel_rfl) (by kernel_rfl) (q_ix _ se_59 rfl rfl rfl isF (by repeat (first | exact List.Mem.head _ | apply List.Mem.tail)) rfl (by first | assumption | omega | exact (List.getElem?_eq_some_iff.1 (by assumption)).1 | (simp; omega))) (fun _ h => h.subD) ?_ | refine D.q 6 rfl (by kernel_rfl) (by kernel_rfl) (q_ix _ se_59 rfl rfl rfl isO (by repeat (first | exact List.Mem.head _ | apply List.Mem.tail)) rfl (by first | assumption | omega | exact (List.getElem?_eq_some_iff.1 (by assumption)).1 | (simp; omega))) (fun _ h => h.subD) ?_
      first | refine D.q 7 rfl (by kernel_rfl) (by kernel_rfl) (q_ldEN ck_63 rfl isF (by repeat (first | exact List.Mem.head _ | apply List.Mem.tail)) (by first | assumption | exact List.getElem?_eq_getElem (by first | assumption | omega | (simp; omega)))) (fun _ h => h.subD) ?_ | refine D.q 7 rfl (by kernel_rfl) (by kernel_rfl) (q_ldEN ck_63 rfl isO (by repeat (first | exact List.Mem.head _ | apply List.Mem.tail)) (by first | assumption | exact List.getElem?_eq_getElem (by first | assumption | omega | (simp; omega)))) (fun _ h => h.subD) ?_
      refine D.q 8 rfl (by kernel_rfl) (by kernel_rfl) (q_recNG Try.underlying63 eff_hp eff_hg rfl rfl (eff_eqD _ _ Try.underlying63)) (fun _ h => h.subD) ?_
      refine D.done (by kernel_rfl) ?_
      refine K.dcond (s := 25) rfl (fun g25 => ?_) (fun g25 => ?_)
      · refine K.seq ?_
        have hr : decide (a = b) = false := decide_eq_false (list_ne_at he1 he2 g25)
        refine K.region ?_
        refine KO.q rfl (q_assign rfl) ?_
        refine KO.done ?_
        refine K.ret (fn := Try.f51) Try.func51 (fun a w hk hs => res1 Try.results51 hk rfl) (fun w hs => ?_)
        rw [hr]
        exact ⟨_, [], rfl, ⟨rfl, rfl⟩, hs.fitD⟩
      · refine K.skip <| K.inBlock ?_
        refine K.region ?_
        refine KO.q rfl (q_move rfl) ?_
        refine KO.q rfl (q_add rfl rfl (by first | omega | (simp; omega)) (by first | omega | (simp; omega))) ?_
        refine KO.q rfl (q_assign rfl) ?_
        refine KO.done ?_
        exact K.subE (by repeat (first | exact Env.sub_nil _ | refine Env.sub_cons rfl ?_)) (ih ⟨i + 1, by omega, take_step he1 he2 (Decidable.not_not.1 g25) ht⟩ (by show a.length - (i + 1) < a.length - i; omega))
    · refine K.exit rfl ?_
      refine K.seq ?_
      have hr : decide (a = b) = true := decide_eq_true (by
        rw [List.take_of_length_le (by omega), List.take_of_length_le (by omega)] at ht
        exact ht)
      refine K.region ?_
      refine KO.q rfl (q_assign rfl) ?_
      refine KO.done ?_
      refine K.ret (fn := Try.f51) Try.func51 (fun a w hk hs => res1 Try.results51 hk rfl) (fun w hs => ?_)
      rw [hr]
      exact ⟨_, [], rfl, ⟨rfl, rfl⟩, hs.fitD⟩
--%call poste/postelaw18.long := long18 _ _ _ (by first | omega | (simp; omega)) !! ⟨_, ⟨lg#, rfl, hlg#, rfl⟩, rfl⟩
set_option maxHeartbeats 800000 in
theorem long18 (q : Option Addr) (cap : Nat) (l : List Eff) (hl : (l.length : Int) ≤ 9223372036854775807) : Fn Try.prog 44 [.slice q l.length cap].toArray [RowF Kd.eff q l] (fun r post => ∃ b, r = .bool b ∧ (b = false → l.length ≤ 60) ∧ post = []) := by
  refine Fn.enter (N := 50) Try.func44 rfl Try.ntmps44 (by kernel_rfl) rfl (fun ρ L => ?_)
  refine K.seq ?_
  refine K.region ?_
  refine KO.q rfl (q_assign rfl) ?_
  refine KO.done ?_
  refine K.seq <| K.seq ?_
  refine K.region ?_
  refine KO.q rfl (q_assign rfl) ?_
  refine KO.done ?_
  refine K.block ?_
  refine K.rloop (ι := { i : Nat // i ≤ l.length }) (fun x => [(3, .int .i64 x.1), (0, .slice q l.length cap)]) (fun x => l.length - x.1) ⟨0, Nat.zero_le _⟩ (by repeat (first | exact Env.sub_nil _ | refine Env.sub_cons rfl ?_)) (fun x ih => ?_)
  obtain ⟨i, hi⟩ := x
  dsimp only at hi ⊢
  refine K.seq <| K.seq ?_
  refine K.region ?_
  refine KO.q rfl (q_move rfl) ?_
  refine KO.q rfl (q_move rfl) ?_
  refine KO.q rfl (q_len Try.underlying59 rfl) ?_
  refine KO.q rfl (q_lt rfl rfl) ?_
  refine KO.done ?_
  refine K.dcond (s := 7) rfl (fun g7 => ?_) (fun g7 => ?_)
  · obtain ⟨e, he⟩ : ∃ e, l[i]? = some e := ⟨_, List.getElem?_eq_getElem (by omega)⟩
    refine K.skip <| K.seq <| K.block <| K.seq ?_
    refine K.drawU (by repeat (first | apply SubL.pers | apply SubL.drop | exact SubL.none)) mixed ?_
    refine D.q 0 rfl (by kernel_rfl) (by kernel_rfl) (q_move rfl) (fun _ h => h.subD) ?_
    refine D.q 1 rfl (by kernel_rfl) (by kernel_rfl) (q_move rfl) (fun _ h => h.subD) ?_
    first | refine D.q 2 rfl (by kernel_rfl) (by kernel_rfl) (q_ix _ se_59 rfl rfl rfl isF (by repeat (first | exact List.Mem.head _ | apply List.Mem.tail)) rfl (by first | assumption | omega | exact (List.getElem?_eq_some_iff.1 (by assumption)).1 | (simp; omega))) (fun _ h => h.subD) ?_ | refine D.q 2 rfl (by kernel_rfl) (by kernel_rfl) (q_ix _ se_59 rfl rfl rfl isO (by repeat (first | exact List.Mem.head _ | apply List.Mem.tail)) rfl (by first | assumption | omega | exact (List.getElem?_eq_some_iff.1 (by assumption)).1 | (simp; omega))) (fun _ h => h.subD) ?_
    refine D.q 3 rfl (by kernel_rfl) (by kernel_rfl) (q_fieldE fo_63_1 rfl) (fun _ h => h.subD) ?_
    first | refine D.q 4 rfl (by kernel_rfl) (by kernel_rfl) (q_ldE ck_9 rfl isF (by repeat (first | exact List.Mem.head _ | apply List.Mem.tail)) (by first | assumption | exact List.getElem?_eq_getElem (by first | assumption | omega | (simp; omega))) rfl) (fun _ h => h.subD) ?_ | refine D.q 4 rfl (by kernel_rfl) (by kernel_rfl) (q_ldE ck_9 rfl isO (by repeat (first | exact List.Mem.head _ | apply List.Mem.tail)) (by first | assumption | exact List.getElem?_eq_getElem (by first | assumption | omega | (simp; omega))) rfl) (fun _ h => h.subD) ?_
    refine D.q 5 rfl (by kernel_rfl) (by kernel_rfl) (q_lenS Try.underlying9 rfl) (fun _ h => h.subD) ?_
    refine D.q 6 rfl (by kernel_rfl) (by kernel_rfl) (q_move rfl) (fun _ h => h.subD) ?_
    refine D.q 7 rfl (by kernel_rfl) (by kernel_rfl) (q_move rfl) (fun _ h => h.subD) ?_
    first | refine D.q 8 rfl (by kernel_rfl) (by kernel_rfl) (q_ix _ se_59 rfl rfl rfl isF (by repeat (first | exact List.Mem.head _ | apply List.Mem.tail)) rfl (by first | assumption | omega | exact (List.getElem?_eq_some_iff.1 (by assumption)).1 | (simp; omega))) (fun _ h => h.subD) ?_ | refine D.q 8 rfl (by kernel_rfl) (by kernel_rfl) (q_ix _ se_59 rfl rfl rfl isO (by repeat (first | exact List.Mem.head _ | apply List.Mem.tail)) rfl (by first | assumption | omega | exact (List.getElem?_eq_some_iff.1 (by assumption)).1 | (simp; omega))) (fun _ h => h.subD) ?_
    refine D.q 9 rfl (by kernel_rfl) (by kernel_rfl) (q_fieldE fo_63_2 rfl) (fun _ h => h.subD) ?_
    first | refine D.q 10 rfl (by kernel_rfl) (by kernel_rfl) (q_ldE ck_9 rfl isF (by repeat (first | exact List.Mem.head _ | apply List.Mem.tail)) (by first | assumption | exact List.getElem?_eq_getElem (by first | assumption | omega | (simp; omega))) rfl) (fun _ h => h.subD) ?_ | refine D.q 10 rfl (by kernel_rfl) (by kernel_rfl) (q_ldE ck_9 rfl isO (by repeat (first | exact List.Mem.head _ | apply List.Mem.tail)) (by first | assumption | exact List.getElem?_eq_getElem (by first | assumption | omega | (simp; omega))) rfl) (fun _ h => h.subD) ?_
    refine D.q 11 rfl (by kernel_rfl) (by kernel_rfl) (q_lenS Try.underlying9 rfl) (fun _ h => h.subD) ?_
    refine D.q 12 rfl (by kernel_rfl) (by kernel_rfl) (q_addw rfl rfl) (fun _ h => h.subD) ?_
    refine D.q 13 rfl (by kernel_rfl) (by kernel_rfl) (q_move rfl) (fun _ h => h.subD) ?_
    refine D.q 14 rfl (by kernel_rfl) (by kernel_rfl) (q_move rfl) (fun _ h => h.subD) ?_
    first | refine D.q 15 rfl (by kernel_rfl) (by kernel_rfl) (q_ix _ se_59 rfl rfl rfl isF (by repeat (first | exact List.Mem.head _ | apply List.Mem.tail)) rfl (by first | assumption | omega | exact (List.getElem?_eq_some_iff.1 (by assumption)).1 | (simp; omega))) (fun _ h => h.subD) ?_ | refine D.q 15 rfl (by kernel_rfl) (by kernel_rfl) (q_ix _ se_59 rfl rfl rfl isO (by repeat (first | exact List.Mem.head _ | apply List.Mem.tail)) rfl (by first | assumption | omega | exact (List.getElem?_eq_some_iff.1 (by assumption)).1 | (simp; omega))) (fun _ h => h.subD) ?_
    refine D.q 16 rfl (by kernel_rfl) (by kernel_rfl) (q_fieldE fo_63_3 rfl) (fun _ h => h.subD) ?_
    first | refine D.q 17 rfl (by kernel_rfl) (by kernel_rfl) (q_ldE ck_9 rfl isF (by repeat (first | exact List.Mem.head _ | apply List.Mem.tail)) (by first | assumption | exact List.getElem?_eq_getElem (by first | assumption | omega | (simp; omega))) rfl) (fun _ h => h.subD) ?_ | refine D.q 17 rfl (by kernel_rfl) (by kernel_rfl) (q_ldE ck_9 rfl isO (by repeat (first | exact List.Mem.head _ | apply List.Mem.tail)) (by first | assumption | exact List.getElem?_eq_getElem (by first | assumption | omega | (simp; omega))) rfl) (fun _ h => h.subD) ?_
    refine D.q 18 rfl (by kernel_rfl) (by kernel_rfl) (q_lenS Try.underlying9 rfl) (fun _ h => h.subD) ?_
    refine D.q 19 rfl (by kernel_rfl) (by kernel_rfl) (q_addw rfl rfl) (fun _ h => h.subD) ?_
    refine D.q 20 rfl (by kernel_rfl) (by kernel_rfl) (q_move rfl) (fun _ h => h.subD) ?_
    refine D.q 21 rfl (by kernel_rfl) (by kernel_rfl) (q_move rfl) (fun _ h => h.subD) ?_
    first | refine D.q 22 rfl (by kernel_rfl) (by kernel_rfl) (q_ix _ se_59 rfl rfl rfl isF (by repeat (first | exact List.Mem.head _ | apply List.Mem.tail)) rfl (by first | assumption | omega | exact (List.getElem?_eq_some_iff.1 (by assumption)).1 | (simp; omega))) (fun _ h => h.subD) ?_ | refine D.q 22 rfl (by kernel_rfl) (by kernel_rfl) (q_ix _ se_59 rfl rfl rfl isO (by repeat (first | exact List.Mem.head _ | apply List.Mem.tail)) rfl (by first | assumption | omega | exact (List.getElem?_eq_some_iff.1 (by assumption)).1 | (simp; omega))) (fun _ h => h.subD) ?_
    refine D.q 23 rfl (by kernel_rfl) (by kernel_rfl) (q_fieldE fo_63_7 rfl) (fun _ h => h.subD) ?_
    refine D.q 24 rfl (by kernel_rfl) (by kernel_rfl) (q_fieldE fo_24_4 rfl) (fun _ h => h.subD) ?_
    first | refine D.q 25 rfl (by kernel_rfl) (by kernel_rfl) (q_ldE ck_9 rfl isF (by repeat (first | exact List.Mem.head _ | apply List.Mem.tail)) (by first | assumption | exact List.getElem?_eq_getElem (by first | assumption | omega | (simp; omega))) rfl) (fun _ h => h.subD) ?_ | refine D.q 25 rfl (by kernel_rfl) (by kernel_rfl) (q_ldE ck_9 rfl isO (by repeat (first | exact List.Mem.head _ | apply List.Mem.tail)) (by first | assumption | exact List.getElem?_eq_getElem (by first | assumption | omega | (simp; omega))) rfl) (fun _ h => h.subD) ?_
    refine D.q 26 rfl (by kernel_rfl) (by kernel_rfl) (q_lenS Try.underlying9 rfl) (fun _ h => h.subD) ?_
    refine D.q 27 rfl (by kernel_rfl) (by kernel_rfl) (q_addw rfl rfl) (fun _ h => h.subD) ?_
    refine D.q 28 rfl (by kernel_rfl) (by kernel_rfl) (q_move rfl) (fun _ h => h.subD) ?_
    refine D.q 29 rfl (by kernel_rfl) (by kernel_rfl) (q_move rfl) (fun _ h => h.subD) ?_
    first | refine D.q 30 rfl (by kernel_rfl) (by kernel_rfl) (q_ix _ se_59 rfl rfl rfl isF (by repeat (first | exact List.Mem.head _ | apply List.Mem.tail)) rfl (by first | assumption | omega | exact (List.getElem?_eq_some_iff.1 (by assumption)).1 | (simp; omega))) (fun _ h => h.subD) ?_ | refine D.q 30 rfl (by kernel_rfl) (by kernel_rfl) (q_ix _ se_59 rfl rfl rfl isO (by repeat (first | exact List.Mem.head _ | apply List.Mem.tail)) rfl (by first | assumption | omega | exact (List.getElem?_eq_some_iff.1 (by assumption)).1 | (simp; omega))) (fun _ h => h.subD) ?_
    refine D.q 31 rfl (by kernel_rfl) (by kernel_rfl) (q_fieldE fo_63_7 rfl) (fun _ h => h.subD) ?_
    refine D.q 32 rfl (by kernel_rfl) (by kernel_rfl) (q_fieldE fo_24_5 rfl) (fun _ h => h.subD) ?_
    first | refine D.q 33 rfl (by kernel_rfl) (by kernel_rfl) (q_ldE ck_9 rfl isF (by repeat (first | exact List.Mem.head _ | apply List.Mem.tail)) (by first | assumption | exact List.getElem?_eq_getElem (by first | assumption | omega | (simp; omega))) rfl) (fun _ h => h.subD) ?_ | refine D.q 33 rfl (by kernel_rfl) (by kernel_rfl) (q_ldE ck_9 rfl isO (by repeat (first | exact List.Mem.head _ | apply List.Mem.tail)) (by first | assumption | exact List.getElem?_eq_getElem (by first | assumption | omega | (simp; omega))) rfl) (fun _ h => h.subD) ?_
    refine D.q 34 rfl (by kernel_rfl) (by kernel_rfl) (q_lenS Try.underlying9 rfl) (fun _ h => h.subD) ?_
    refine D.q 35 rfl (by kernel_rfl) (by kernel_rfl) (q_addw rfl rfl) (fun _ h => h.subD) ?_
    refine D.q 36 rfl (by kernel_rfl) (by kernel_rfl) (q_gt rfl rfl) (fun _ h => h.subD) ?_
    refine D.done (by kernel_rfl) ?_
    refine K.dcond (s := 46) rfl (fun g46 => ?_) (fun g46 => ?_)
    · refine K.seq ?_
      refine K.region ?_
      refine KO.q rfl (q_assign rfl) ?_
      refine KO.done ?_
      refine K.ret (fn := Try.f44) Try.func44 (fun a w hk hs => res1 Try.results44 hk rfl) (fun w hs => ?_)
      exact ⟨_, [], rfl, ⟨_, rfl, by intro h; first | cases h | (have := of_decide_eq_false h; omega), rfl⟩, hs.fitD⟩
    · refine K.skip <| K.inBlock ?_
      refine K.region ?_
      refine KO.q rfl (q_move rfl) ?_
      refine KO.q rfl (q_add rfl rfl (by first | omega | (simp; omega)) (by first | omega | (simp; omega))) ?_
      refine KO.q rfl (q_assign rfl) ?_
      refine KO.done ?_
      exact K.subE (by repeat (first | exact Env.sub_nil _ | refine Env.sub_cons rfl ?_)) (ih ⟨i + 1, by omega⟩ (by show l.length - (i + 1) < l.length - i; omega))
  · refine K.exit rfl ?_
    refine K.seq ?_
    refine K.region ?_
    refine KO.q rfl (q_move rfl) ?_
    refine KO.q rfl (q_len Try.underlying59 rfl) ?_
    refine KO.q rfl (q_gt rfl rfl) ?_
    refine KO.q rfl (q_assign rfl) ?_
    refine KO.done ?_
    refine K.ret (fn := Try.f44) Try.func44 (fun a w hk hs => res1 Try.results44 hk rfl) (fun w hs => ?_)
    exact ⟨_, [], rfl, ⟨_, rfl, by intro h; first | cases h | (have := of_decide_eq_false h; omega), rfl⟩, hs.fitD⟩
end Go.Proofs.Ytlellgnklohclaa.L
/-! Walk: changes read by the document. -/
namespace Go.Proofs.Ytlellgnklohclaa.L
open Go Go.Proofs
attribute [local irreducible] pv fv pt fz RowF RowO rowP old pure_ elA Rd.int Rd.text Rd.flag Rd.msg Rd.rint Rd.rtext Rd.rflag Rd.rmsg
set_option maxRecDepth 100000
set_option linter.unusedSimpArgs false
set_option linter.unusedVariables false
attribute [local irreducible] Rd.eff Rd.reff

--%call poste/posteref14.ReadEffects := ref_ReadEffects _ _ _ (by assumption) (by first | omega | (simp; omega)) !! ⟨_, ⟨q#, c#, rfl, rfl, hc#⟩, rfl⟩
set_option maxHeartbeats 1600000 in
theorem ref_ReadEffects (q : Option Addr) (cap : Nat) (bs : List UInt8) (hcap : bs.length ≤ cap) (hb : bs.length ≤ 1099511627776) : Fn Try.prog 52 [.slice q bs.length cap].toArray [RowF Kd.u8 q bs]
    (fun r post => ∃ q' cap', r = .tuple #[.slice q' ((effRead bs).getD []).length cap', .int .i64 (if (effRead bs).isSome then 0 else 11)] ∧ post = [RowF Kd.eff q' ((effRead bs).getD [])] ∧ ((effRead bs).getD []).length ≤ cap') := by
  obtain ⟨n0, s0, ha⟩ : ∃ n0 s0, Rd.rint ⟨bs, false⟩ = (n0, s0) := ⟨_, _, rfl⟩
  replace hcap : (Rd.mk bs false).bs.length ≤ cap := hcap
  refine Fn.enter (N := 64) Try.func52 rfl Try.ntmps52 (by kernel_rfl) rfl (fun ρ L => ?_)
  refine K.seq ?_
  refine K.region ?_
  refine KO.q rfl (q_assign rfl) ?_
  refine KO.q rfl (q_assign rfl) ?_
  refine KO.done ?_
  refine K.seq ?_
  refine K.region ?_
  refine KO.q rfl (q_move rfl) ?_
  refine KO.loud rfl (OpL.callD rfl (h := rf_New _ _ _)) ?_
  rintro _ _ ⟨_, ⟨p1, rfl, rfl⟩, rfl⟩
  refine KO.q rfl (q_assign rfl) ?_
  refine KO.done ?_
  refine K.seq ?_
  refine K.region ?_
  refine KO.q rfl (q_move rfl) ?_
  refine KO.loud rfl (OpL.callD rfl (h := rf_Int _ _ _ _ (by assumption))) ?_
  rintro _ _ ⟨_, ⟨q2, c2, rfl, rfl, hc2⟩, rfl⟩
  refine KO.q rfl (q_assign rfl) ?_
  refine KO.done ?_
  simp only [ha] at hc2 ⊢
  refine K.seq <| K.seq ?_
  refine K.region ?_
  refine KO.q rfl (q_move rfl) ?_
  refine KO.q rfl (q_lt rfl rfl) ?_
  refine KO.q rfl (q_move rfl) ?_
  refine KO.dsplit 16 rfl (fun g16 => ?_) (fun g16 => ?_)
  · refine KO.skip rfl ?_
    refine KO.skip rfl ?_
    refine KO.q rfl (q_pickT rfl rfl) ?_
    refine KO.done ?_
    refine K.yes rfl ?_
    refine K.seq ?_
    have hr : effRead bs = none := by rw [effRef_of ha, if_pos (by simp [*])]
    refine K.region ?_
    refine KO.q rfl (q_assign rfl) ?_
    refine KO.q rfl (q_assign rfl) ?_
    refine KO.done ?_
    refine K.ret (fn := Try.f52) Try.func52 (fun a w hk hs => res2 Try.results52 hk rfl rfl) (fun w hs => ?_)
    rw [hr]
    first
      | exact ⟨_, [RowF Kd.eff none []], rfl, ⟨none, 0, rfl, rfl, Nat.le_refl _⟩, (rowF_nil (k := Kd.eff) none hs).fitD⟩
      | exact ⟨_, [RowF Kd.eff p2 acc], rfl, ⟨p2, cap2, rfl, rfl, hcap2⟩, hs.fitD⟩
  · refine KO.q rfl (q_move rfl) ?_
    refine KO.q rfl (q_gt rfl rfl) ?_
    refine KO.q rfl (q_pickF rfl rfl) ?_
    refine KO.done ?_
    refine K.dcond (s := 19) rfl (fun g19 => ?_) (fun g19 => ?_)
    · refine K.seq ?_
      have hr : effRead bs = none := by rw [effRef_of ha, if_pos (by simp [*])]
      refine K.region ?_
      refine KO.q rfl (q_assign rfl) ?_
      refine KO.q rfl (q_assign rfl) ?_
      refine KO.done ?_
      refine K.ret (fn := Try.f52) Try.func52 (fun a w hk hs => res2 Try.results52 hk rfl rfl) (fun w hs => ?_)
      rw [hr]
      first
        | exact ⟨_, [RowF Kd.eff none []], rfl, ⟨none, 0, rfl, rfl, Nat.le_refl _⟩, (rowF_nil (k := Kd.eff) none hs).fitD⟩
        | exact ⟨_, [RowF Kd.eff p2 acc], rfl, ⟨p2, cap2, rfl, rfl, hcap2⟩, hs.fitD⟩
    · refine K.skip <| K.seq ?_
      have hc : ¬ (n0 < 0 ∨ 10000 < n0) := by omega
      have hr0 := effRef_of ha
      rw [if_neg hc] at hr0
      obtain ⟨n, rfl⟩ : ∃ n : Nat, n0 = n := ⟨n0.toNat, by omega⟩
      rw [Int.toNat_natCast] at hr0
      refine K.st (fun w h => rowO_nil (k := Kd.eff) 63 h) ?_
      refine K.region ?_
      refine KO.q rfl (q_assign rfl) ?_
      refine KO.done ?_
      refine K.seq ?_
      refine K.region ?_
      refine KO.q rfl (q_assign rfl) ?_
      refine KO.done ?_
      refine K.seq <| K.seq ?_
      refine K.region ?_
      refine KO.q rfl (q_assign rfl) ?_
      refine KO.done ?_
      refine K.block ?_
      refine K.rounds2 (ι := { x : Nat × List Eff × Bool × Rd × Option Addr × Nat × Option Addr × Nat // x.1 ≤ n ∧ x.2.1.length = x.1 ∧ x.2.2.2.1.bs.length ≤ x.2.2.2.2.2.1 ∧ Rd.reffs n [] true s0 = Rd.reffs (n - x.1) x.2.1 x.2.2.1 x.2.2.2.1 }) (fun x => [(8, .int .i64 x.1.1), (7, .bool x.1.2.2.1), (5, .int .i64 n), (6, .slice x.1.2.2.2.2.2.2.1 x.1.2.1.length x.1.2.2.2.2.2.2.2), (4, .pointer (some ⟨p1, 0, none⟩))]) (fun x => RfL p1 x.1.2.2.2.2.1 x.1.2.2.2.2.2.1 x.1.2.2.2.1 ++ [RowO Kd.eff 63 x.1.2.2.2.2.2.2.1 x.1.2.2.2.2.2.2.2 x.1.2.1] ++ L) (fun x => n - x.1.1) ⟨(0, [], true, s0, q2, c2, none, 0), Nat.zero_le _, rfl, hc2, rfl⟩ (by repeat (first | exact Env.sub_nil _ | refine Env.sub_cons rfl ?_)) (fun w h => h.fitD) (fun x ih => ?_)
      obtain ⟨⟨i, acc, ok, s, q', c', p2, cap2⟩, hi, hl, hcs, hinv⟩ := x
      dsimp only at hi hl hcs hinv ⊢
      refine K.seq <| K.seq ?_
      refine K.region ?_
      refine KO.q rfl (q_move rfl) ?_
      refine KO.q rfl (q_move rfl) ?_
      refine KO.q rfl (q_lt rfl rfl) ?_
      refine KO.q rfl (q_move rfl) ?_
      refine KO.dsplit 23 rfl (fun g23 => ?_) (fun g23 => ?_)
      · refine KO.q rfl (q_move rfl) ?_
        refine KO.loud rfl (OpL.callD rfl (h := rf_Bad _ _ _ _)) ?_
        rintro _ _ ⟨_, ⟨rfl, rfl⟩, rfl⟩
        refine KO.q rfl (q_not rfl) ?_
        refine KO.q rfl (q_pickT rfl rfl) ?_
        refine KO.done ?_
        refine K.bcond (s := 27) rfl (fun g27 => ?_) (fun g27 => ?_)
        · have hst := reffs_succ (n - (i + 1)) acc ok s
          rw [show n - (i + 1) + 1 = n - i by omega, if_neg (by simpa using g27)] at hst
          refine K.skip <| K.seq <| K.block <| K.seq ?_
          refine K.region ?_
          refine KO.q rfl (q_move rfl) ?_
          refine KO.loud rfl (OpL.callD rfl (h := rf_Int _ _ _ _ (by assumption))) ?_
          rintro _ _ ⟨_, ⟨q4, c4, rfl, rfl, hc4⟩, rfl⟩
          refine KO.q rfl (q_move rfl) ?_
          refine KO.loud rfl (OpL.callD rfl (h := rf_Text _ _ _ _ (by assumption))) ?_
          rintro _ _ ⟨_, ⟨q5, c5, rfl, rfl, hc5⟩, rfl⟩
          refine KO.q rfl (q_move rfl) ?_
          refine KO.loud rfl (OpL.callD rfl (h := rf_Text _ _ _ _ (by assumption))) ?_
          rintro _ _ ⟨_, ⟨q6, c6, rfl, rfl, hc6⟩, rfl⟩
          refine KO.q rfl (q_move rfl) ?_
          refine KO.loud rfl (OpL.callD rfl (h := rf_Text _ _ _ _ (by assumption))) ?_
          rintro _ _ ⟨_, ⟨q7, c7, rfl, rfl, hc7⟩, rfl⟩
          refine KO.q rfl (q_move rfl) ?_
          refine KO.loud rfl (OpL.callD rfl (h := rf_Int _ _ _ _ (by assumption))) ?_
          rintro _ _ ⟨_, ⟨q8, c8, rfl, rfl, hc8⟩, rfl⟩
          refine KO.q rfl (q_move rfl) ?_
          refine KO.loud rfl (OpL.callD rfl (h := rf_Int _ _ _ _ (by assumption))) ?_
          rintro _ _ ⟨_, ⟨q9, c9, rfl, rfl, hc9⟩, rfl⟩
          refine KO.q rfl (q_move rfl) ?_
          refine KO.loud rfl (OpL.callD rfl (h := rf_Flag _ _ _ _ (by assumption))) ?_
          rintro _ _ ⟨_, ⟨q10, c10, rfl, rfl, hc10⟩, rfl⟩
          refine KO.q rfl (q_move rfl) ?_
          refine KO.loud rfl (OpL.callD rfl (h := ref_GetMsg _ _ _ _ (by assumption))) ?_
          rintro _ _ ⟨_, ⟨q11, c11, rfl, rfl, hc11⟩, rfl⟩
          refine KO.q rfl (q_as_eff (q_build st_63 rfl (by repeat (first | exact Fill.nil | (apply Fill.cons; rfl; rfl; rfl) | exact SetN.nil | apply SetN.cons | exact SetAt.here | apply SetAt.there))) (by rfl)) ?_
          refine KO.loud rfl (l_alloc zo_63) ?_
          rintro _ _ ⟨b9, rfl, rfl⟩
          refine KO.loudN rfl (l_storeAll ck_63 rfl rfl ⟨rfl, rfl⟩ (eff_one _) (by repeat (first | exact Pick.here | apply Pick.there))) ?_
          rintro _ _ ⟨rfl, rfl⟩
          refine KO.done ?_
          rw [reff_fold2] at hc11
          rw [reff_fold, reff_fold2]
          refine K.seq ?_
          refine K.region ?_
          refine KO.q rfl (q_move rfl) ?_
          refine KO.q rfl (q_move rfl) ?_
          first | refine KO.dsplit 48 rfl (fun g48 => ?_) (fun g48 => ?_) | refine KO.split 48 rfl (fun g48 => ?_) (fun g48 => ?_)
          · obtain rfl : ok = true := g48
            refine KO.q rfl (q_loadN ck_63 rfl rfl (by first | (apply cells_pv; (repeat (first | exact List.Mem.head _ | apply List.Mem.tail))) | (apply cells_fv; (repeat (first | exact List.Mem.head _ | apply List.Mem.tail))))) ?_
            refine KO.loud rfl (OpL.callD rfl (h := ref_RightEffect _)) ?_
            rintro _ _ ⟨_, ⟨rfl, rfl⟩, rfl⟩
            refine KO.q rfl (q_pickT rfl rfl) ?_
            refine KO.q rfl (q_assign rfl) ?_
            refine KO.done ?_
            refine K.region ?_
            refine KO.q rfl (q_move rfl) ?_
            refine KO.q rfl (q_loadN ck_63 rfl rfl (by first | (apply cells_pv; (repeat (first | exact List.Mem.head _ | apply List.Mem.tail))) | (apply cells_fv; (repeat (first | exact List.Mem.head _ | apply List.Mem.tail))))) ?_
            refine KO.loud rfl (l_slice1 sz_59_1 rfl rfl ⟨rfl, rfl, rfl⟩) ?_
            rintro _ _ ⟨b54, rfl, rfl⟩
            refine KO.loud rfl (l_append Kd.eff se_59 Try.underlying59 ⟨_, ze_63, rfl⟩ (by decide) rfl rfl (by repeat (first | exact Pick.here | apply Pick.there)) isP (by repeat (first | exact List.Mem.head _ | apply List.Mem.tail)) rfl rfl (by simp; omega)) ?_
            rintro _ _ ⟨p3, cap3, rfl, rfl⟩
            refine KO.q rfl (q_assign rfl) ?_
            refine KO.done ?_
            refine K.inBlock ?_
            refine K.region ?_
            refine KO.q rfl (q_move rfl) ?_
            refine KO.q rfl (q_add rfl rfl (by first | omega | (simp; omega)) (by first | omega | (simp; omega))) ?_
            refine KO.q rfl (q_assign rfl) ?_
            refine KO.done ?_
            have hst2 := hinv.trans hst
            first
              | refine K.weak ?_ ?_ (ih ⟨(i + 1, acc ++ [s.reff.1], (true && s.reff.1.right), s.reff.2, q11, c11, p3, cap3), ?_, ?_, ?_, hst2⟩ ?_)
              | refine K.weak ?_ ?_ (ih ⟨(i + 1, acc ++ [s.reff.1], (false && s.reff.1.right), s.reff.2, q11, c11, p3, cap3), ?_, ?_, ?_, hst2⟩ ?_)
            · exact (by repeat (first | exact Env.sub_nil _ | refine Env.sub_cons rfl ?_))
            · intro w h
              dsimp only
              exact h.fitD
            · show i + 1 ≤ n
              omega
            · show (acc ++ [s.reff.1]).length = i + 1
              simp [hl]
            · assumption
            · show n - (i + 1) < n - i
              omega
          · obtain rfl : ok = false := g48
            refine KO.skip rfl ?_
            refine KO.skip rfl ?_
            refine KO.q rfl (q_pickF rfl rfl) ?_
            refine KO.q rfl (q_assign rfl) ?_
            refine KO.done ?_
            refine K.region ?_
            refine KO.q rfl (q_move rfl) ?_
            refine KO.q rfl (q_loadN ck_63 rfl rfl (by first | (apply cells_pv; (repeat (first | exact List.Mem.head _ | apply List.Mem.tail))) | (apply cells_fv; (repeat (first | exact List.Mem.head _ | apply List.Mem.tail))))) ?_
            refine KO.loud rfl (l_slice1 sz_59_1 rfl rfl ⟨rfl, rfl, rfl⟩) ?_
            rintro _ _ ⟨b54, rfl, rfl⟩
            refine KO.loud rfl (l_append Kd.eff se_59 Try.underlying59 ⟨_, ze_63, rfl⟩ (by decide) rfl rfl (by repeat (first | exact Pick.here | apply Pick.there)) isP (by repeat (first | exact List.Mem.head _ | apply List.Mem.tail)) rfl rfl (by simp; omega)) ?_
            rintro _ _ ⟨p3, cap3, rfl, rfl⟩
            refine KO.q rfl (q_assign rfl) ?_
            refine KO.done ?_
            refine K.inBlock ?_
            refine K.region ?_
            refine KO.q rfl (q_move rfl) ?_
            refine KO.q rfl (q_add rfl rfl (by first | omega | (simp; omega)) (by first | omega | (simp; omega))) ?_
            refine KO.q rfl (q_assign rfl) ?_
            refine KO.done ?_
            have hst2 := hinv.trans hst
            first
              | refine K.weak ?_ ?_ (ih ⟨(i + 1, acc ++ [s.reff.1], (true && s.reff.1.right), s.reff.2, q11, c11, p3, cap3), ?_, ?_, ?_, hst2⟩ ?_)
              | refine K.weak ?_ ?_ (ih ⟨(i + 1, acc ++ [s.reff.1], (false && s.reff.1.right), s.reff.2, q11, c11, p3, cap3), ?_, ?_, ?_, hst2⟩ ?_)
            · exact (by repeat (first | exact Env.sub_nil _ | refine Env.sub_cons rfl ?_))
            · intro w h
              dsimp only
              exact h.fitD
            · show i + 1 ≤ n
              omega
            · show (acc ++ [s.reff.1]).length = i + 1
              simp [hl]
            · assumption
            · show n - (i + 1) < n - i
              omega
        · refine K.exit rfl ?_
          refine K.seq <| K.seq ?_
          have hz : Rd.reffs n [] true s0 = (acc, ok, s) := by
            rw [hinv]
            first
              | exact reffs_f _ _ _ _ (by simpa using g27)
              | (rw [show n - i = 0 by omega]; exact reffs_zero _ _ _)
          refine K.region ?_
          refine KO.q rfl (q_move rfl) ?_
          refine KO.loud rfl (OpL.callD rfl (h := rf_Done _ _ _ _)) ?_
          rintro _ _ ⟨_, ⟨rfl, rfl⟩, rfl⟩
          refine KO.q rfl (q_not rfl) ?_
          refine KO.q rfl (q_move rfl) ?_
          refine KO.split 59 rfl (fun g59 => ?_) (fun g59 => ?_)
          · refine KO.skip rfl ?_
            refine KO.skip rfl ?_
            refine KO.q rfl (q_pickT rfl rfl) ?_
            refine KO.done ?_
            refine K.yes rfl ?_
            refine K.seq ?_
            have hr : effRead bs = none := by
              rw [hr0, hz]
              dsimp only
              rw [if_pos (by first | (simp [g59]; done) | (simp [g62]; done))]
            refine K.region ?_
            refine KO.q rfl (q_assign rfl) ?_
            refine KO.q rfl (q_assign rfl) ?_
            refine KO.done ?_
            refine K.ret (fn := Try.f52) Try.func52 (fun a w hk hs => res2 Try.results52 hk rfl rfl) (fun w hs => ?_)
            rw [hr]
            first
              | exact ⟨_, [RowF Kd.eff none []], rfl, ⟨none, 0, rfl, rfl, Nat.le_refl _⟩, (rowF_nil (k := Kd.eff) none hs).fitD⟩
              | exact ⟨_, [RowF Kd.eff p2 acc], rfl, ⟨p2, cap2, rfl, rfl, hcap2⟩, hs.fitD⟩
          · refine KO.q rfl (q_move rfl) ?_
            refine KO.q rfl (q_not rfl) ?_
            refine KO.q rfl (q_pickF rfl rfl) ?_
            refine KO.done ?_
            refine K.bcond (s := 62) rfl (fun g62 => ?_) (fun g62 => ?_)
            · refine K.seq ?_
              have hr : effRead bs = none := by
                rw [hr0, hz]
                dsimp only
                rw [if_pos (by first | (simp [g59]; done) | (simp [g62]; done))]
              refine K.region ?_
              refine KO.q rfl (q_assign rfl) ?_
              refine KO.q rfl (q_assign rfl) ?_
              refine KO.done ?_
              refine K.ret (fn := Try.f52) Try.func52 (fun a w hk hs => res2 Try.results52 hk rfl rfl) (fun w hs => ?_)
              rw [hr]
              first
                | exact ⟨_, [RowF Kd.eff none []], rfl, ⟨none, 0, rfl, rfl, Nat.le_refl _⟩, (rowF_nil (k := Kd.eff) none hs).fitD⟩
                | exact ⟨_, [RowF Kd.eff p2 acc], rfl, ⟨p2, cap2, rfl, rfl, hcap2⟩, hs.fitD⟩
            · refine K.skip <| K.seq ?_
              have hr : effRead bs = some acc := by
                rw [hr0, hz]
                dsimp only
                rw [if_neg (by simp [g59, g62])]
              refine K.fact (rowO_cap (by repeat (first | exact List.Mem.head _ | apply List.Mem.tail))) (fun hcap2 => ?_)
              refine K.st (fun w h => rowO_freeze (h.pick (by repeat (first | exact Pick.here | apply Pick.there)))) ?_
              refine K.region ?_
              refine KO.q rfl (q_move rfl) ?_
              refine KO.q rfl (q_assign rfl) ?_
              refine KO.q rfl (q_assign rfl) ?_
              refine KO.done ?_
              refine K.ret (fn := Try.f52) Try.func52 (fun a w hk hs => res2 Try.results52 hk rfl rfl) (fun w hs => ?_)
              rw [hr]
              first
                | exact ⟨_, [RowF Kd.eff none []], rfl, ⟨none, 0, rfl, rfl, Nat.le_refl _⟩, (rowF_nil (k := Kd.eff) none hs).fitD⟩
                | exact ⟨_, [RowF Kd.eff p2 acc], rfl, ⟨p2, cap2, rfl, rfl, hcap2⟩, hs.fitD⟩
      · refine KO.skip rfl ?_
        refine KO.skip rfl ?_
        refine KO.skip rfl ?_
        refine KO.q rfl (q_pickF rfl rfl) ?_
        refine KO.done ?_
        refine K.no rfl ?_
        refine K.exit rfl ?_
        refine K.seq <| K.seq ?_
        have hz : Rd.reffs n [] true s0 = (acc, ok, s) := by
          rw [hinv]
          first
            | exact reffs_f _ _ _ _ (by simpa using g27)
            | (rw [show n - i = 0 by omega]; exact reffs_zero _ _ _)
        refine K.region ?_
        refine KO.q rfl (q_move rfl) ?_
        refine KO.loud rfl (OpL.callD rfl (h := rf_Done _ _ _ _)) ?_
        rintro _ _ ⟨_, ⟨rfl, rfl⟩, rfl⟩
        refine KO.q rfl (q_not rfl) ?_
        refine KO.q rfl (q_move rfl) ?_
        refine KO.split 59 rfl (fun g59 => ?_) (fun g59 => ?_)
        · refine KO.skip rfl ?_
          refine KO.skip rfl ?_
          refine KO.q rfl (q_pickT rfl rfl) ?_
          refine KO.done ?_
          refine K.yes rfl ?_
          refine K.seq ?_
          have hr : effRead bs = none := by
            rw [hr0, hz]
            dsimp only
            rw [if_pos (by first | (simp [g59]; done) | (simp [g62]; done))]
          refine K.region ?_
          refine KO.q rfl (q_assign rfl) ?_
          refine KO.q rfl (q_assign rfl) ?_
          refine KO.done ?_
          refine K.ret (fn := Try.f52) Try.func52 (fun a w hk hs => res2 Try.results52 hk rfl rfl) (fun w hs => ?_)
          rw [hr]
          first
            | exact ⟨_, [RowF Kd.eff none []], rfl, ⟨none, 0, rfl, rfl, Nat.le_refl _⟩, (rowF_nil (k := Kd.eff) none hs).fitD⟩
            | exact ⟨_, [RowF Kd.eff p2 acc], rfl, ⟨p2, cap2, rfl, rfl, hcap2⟩, hs.fitD⟩
        · refine KO.q rfl (q_move rfl) ?_
          refine KO.q rfl (q_not rfl) ?_
          refine KO.q rfl (q_pickF rfl rfl) ?_
          refine KO.done ?_
          refine K.bcond (s := 62) rfl (fun g62 => ?_) (fun g62 => ?_)
          · refine K.seq ?_
            have hr : effRead bs = none := by
              rw [hr0, hz]
              dsimp only
              rw [if_pos (by first | (simp [g59]; done) | (simp [g62]; done))]
            refine K.region ?_
            refine KO.q rfl (q_assign rfl) ?_
            refine KO.q rfl (q_assign rfl) ?_
            refine KO.done ?_
            refine K.ret (fn := Try.f52) Try.func52 (fun a w hk hs => res2 Try.results52 hk rfl rfl) (fun w hs => ?_)
            rw [hr]
            first
              | exact ⟨_, [RowF Kd.eff none []], rfl, ⟨none, 0, rfl, rfl, Nat.le_refl _⟩, (rowF_nil (k := Kd.eff) none hs).fitD⟩
              | exact ⟨_, [RowF Kd.eff p2 acc], rfl, ⟨p2, cap2, rfl, rfl, hcap2⟩, hs.fitD⟩
          · refine K.skip <| K.seq ?_
            have hr : effRead bs = some acc := by
              rw [hr0, hz]
              dsimp only
              rw [if_neg (by simp [g59, g62])]
            refine K.fact (rowO_cap (by repeat (first | exact List.Mem.head _ | apply List.Mem.tail))) (fun hcap2 => ?_)
            refine K.st (fun w h => rowO_freeze (h.pick (by repeat (first | exact Pick.here | apply Pick.there)))) ?_
            refine K.region ?_
            refine KO.q rfl (q_move rfl) ?_
            refine KO.q rfl (q_assign rfl) ?_
            refine KO.q rfl (q_assign rfl) ?_
            refine KO.done ?_
            refine K.ret (fn := Try.f52) Try.func52 (fun a w hk hs => res2 Try.results52 hk rfl rfl) (fun w hs => ?_)
            rw [hr]
            first
              | exact ⟨_, [RowF Kd.eff none []], rfl, ⟨none, 0, rfl, rfl, Nat.le_refl _⟩, (rowF_nil (k := Kd.eff) none hs).fitD⟩
              | exact ⟨_, [RowF Kd.eff p2 acc], rfl, ⟨p2, cap2, rfl, rfl, hcap2⟩, hs.fitD⟩
end Go.Proofs.Ytlellgnklohclaa.L
