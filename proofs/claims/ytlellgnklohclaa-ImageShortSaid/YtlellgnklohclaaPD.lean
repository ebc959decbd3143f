/- Plain: states read: readers with the mark of a wrong list. No program in sight. -/
import Derived.Test.YtlellgnklohclaaD2
namespace Go.Proofs.Ytlellgnklohclaa.L
open Go Go.Proofs
set_option maxRecDepth 100000
set_option linter.unusedSimpArgs false
set_option linter.unusedVariables false
open Go

abbrev RdW := Rd × Bool
def RwM (α : Type) := RdW → α × RdW
def RwM.bind {α β : Type} (r : RwM α) (k : α → RwM β) : RwM β := fun s => k (r s).1 (r s).2
def RwM.ret {α : Type} (a : α) : RwM α := fun s => (a, s)
def RdM.lift {α : Type} (r : RdM α) : RwM α := fun s => ((r s.1).1, ((r s.1).2, s.2))
def lsGo {α : Type} (one : RwM α) : Nat → List α → RdW → List α × RdW
  | 0, acc, s => (acc, s)
  | n + 1, acc, s => if s.1.f = true then (acc, s) else lsGo one n (acc ++ [(one s).1]) (one s).2
theorem lsGo_zero {α : Type} (one : RwM α) (acc : List α) (s : RdW) : lsGo one 0 acc s = (acc, s) := rfl
theorem lsGo_succ {α : Type} (one : RwM α) (n : Nat) (acc : List α) (s : RdW) : lsGo one (n + 1) acc s = if s.1.f = true then (acc, s) else lsGo one n (acc ++ [(one s).1]) (one s).2 := rfl
theorem lsGo_f {α : Type} (one : RwM α) : ∀ (n : Nat) (acc : List α) (s : RdW), s.1.f = true → lsGo one n acc s = (acc, s)
  | 0, _, _, _ => rfl
  | _ + 1, _, _, h => by rw [lsGo_succ, if_pos h]
def cntM : RwM Int := fun s => (s.1.int.1, (s.1.int.2, s.2 || decide (s.1.int.1 < 0)))
def lsM {α : Type} (one : RwM α) : RwM (List α) := RwM.bind cntM fun n => lsGo one n.toNat []
theorem lsM_eq {α : Type} (one : RwM α) (s : RdW) : lsM one s = lsGo one s.1.int.1.toNat [] (s.1.int.2, s.2 || decide (s.1.int.1 < 0)) := rfl
def rwM : RwM Rw := RwM.bind (RdM.lift Rd.text) fun a => RwM.bind (RdM.lift Rd.text) fun b => RwM.ret ⟨a, b⟩
def msgM : RwM Msg := RdM.lift Rd.msg
def objM : RwM Ob := RwM.bind (RdM.lift Rd.text) fun a => RwM.bind (RdM.lift Rd.int) fun b => RwM.bind (RdM.lift Rd.int) fun c => RwM.bind (lsM rwM) fun d => RwM.bind (lsM msgM) fun e => RwM.bind (lsM msgM) fun f => RwM.ret ⟨a, b, c, d, e, f⟩
def sttM : RwM Stt := RwM.bind (RdM.lift Rd.int) fun a => RwM.bind (lsM objM) fun l => RwM.ret ⟨a, l⟩
def imgRead (b : List UInt8) : Option Stt := let s := sttM (⟨b, false⟩, false)
  if (!s.2.1.done || (s.2.2 || !s.1.right)) = true then none else some s.1
/-! ### A proper beginning -/
def PreW {α : Type} (r : RwM α) : Prop := (∀ s, s.1.f = true → (r s).2.1.f = true) ∧ ∀ s t, Pre s.1 t.1 → (r t).2.1.f = false → Pre (r s).2.1 (r t).2.1 ∧ ((r s).2.1.f = true ∨ (r s).1 = (r t).1)
theorem PreW.ret {α : Type} (a : α) : PreW (RwM.ret a) := ⟨fun _ h => h, fun _ _ h _ => ⟨h, .inr rfl⟩⟩
theorem PreW.lift {α : Type} {r : RdM α} (h : PreOK r) : PreW (RdM.lift r) := ⟨fun s hs => h.1 s.1 hs, fun s t hp ht => h.2 s.1 t.1 hp ht⟩
theorem PreW.bind {α β : Type} {r : RwM α} {k : α → RwM β} (h : PreW r) (hk : ∀ a, PreW (k a)) : PreW (RwM.bind r k) := by
  refine ⟨fun s hs => (hk _).1 _ (h.1 s hs), fun s t hp ht => ?_⟩
  have ht : (k (r t).1 (r t).2).2.1.f = false := ht
  have h1 : (r t).2.1.f = false := by
    cases hf : (r t).2.1.f with
    | false => rfl
    | true => rw [(hk _).1 _ hf] at ht; cases ht
  obtain ⟨p1, p2⟩ := h.2 s t hp h1
  show Pre (k (r s).1 (r s).2).2.1 (k (r t).1 (r t).2).2.1 ∧ _
  rcases p2 with hf | he
  · have : (k (r s).1 (r s).2).2.1.f = true := (hk _).1 _ hf
    exact ⟨.inl this, .inl this⟩
  · have := (hk (r t).1).2 _ _ p1 ht
    rw [← he] at this
    refine ⟨by rw [← he]; exact this.1, ?_⟩
    rcases this.2 with h | h
    · exact .inl h
    · exact .inr (by show (k (r s).1 (r s).2).1 = (k (r t).1 (r t).2).1; rw [← he]; exact h)
theorem PreW.go {α : Type} {one : RwM α} (h : PreW one) : ∀ (n : Nat) (acc : List α), PreW (lsGo one n acc)
  | 0, acc => PreW.ret acc
  | n + 1, acc => by
    have hb : PreW (RwM.bind one fun x => lsGo one n (acc ++ [x])) := h.bind fun x => PreW.go h n _
    refine ⟨fun s hs => by rw [lsGo_f _ _ _ _ hs]; exact hs, fun s t hp ht => ?_⟩
    have htf : ¬ t.1.f = true := fun hf => by rw [lsGo_f _ _ _ _ hf] at ht; rw [hf] at ht; cases ht
    by_cases hs : s.1.f = true
    · rw [lsGo_f _ _ _ s hs]
      exact ⟨.inl hs, .inl hs⟩
    · rw [lsGo_succ, if_neg htf] at ht
      rw [lsGo_succ, lsGo_succ, if_neg hs, if_neg htf]
      exact hb.2 s t hp ht
theorem PreW.cnt : PreW cntM := ⟨fun s hs => pre_int.1 s.1 hs, fun s t hp ht => pre_int.2 s.1 t.1 hp ht⟩
theorem PreW.ls {α : Type} {one : RwM α} (h : PreW one) : PreW (lsM one) := PreW.cnt.bind fun _ => h.go _ _
theorem preW_rw : PreW rwM := (PreW.lift pre_text).bind fun _ => (PreW.lift pre_text).bind fun _ => .ret _
theorem preW_msg : PreW msgM := PreW.lift pre_msg
theorem preW_obj : PreW objM := (PreW.lift pre_text).bind fun _ => (PreW.lift pre_int).bind fun _ => (PreW.lift pre_int).bind fun _ => preW_rw.ls.bind fun _ => preW_msg.ls.bind fun _ => preW_msg.ls.bind fun _ => .ret _
theorem preW_stt : PreW sttM := (PreW.lift pre_int).bind fun _ => preW_obj.ls.bind fun _ => .ret _
theorem imgRead_pre {b : List UInt8} {x : Stt} (h : imgRead b = some x) (n : Nat) (hn : n < b.length) : imgRead (b.take n) = none := by
  have hp := Pre.cut b n hn
  unfold imgRead at h ⊢
  dsimp only at h ⊢
  by_cases hc : (!(sttM (⟨b, false⟩, false)).2.1.done || ((sttM (⟨b, false⟩, false)).2.2 || !(sttM (⟨b, false⟩, false)).1.right)) = true
  · rw [if_pos hc] at h; cases h
  · have hd : (sttM (⟨b, false⟩, false)).2.1.done = true := by
      cases hx : (sttM (⟨b, false⟩, false)).2.1.done with
      | true => rfl
      | false => exact absurd (by rw [hx]; rfl) hc
    have hd2 : (sttM (⟨b, false⟩, false)).2.1.f = false ∧ (sttM (⟨b, false⟩, false)).2.1.bs = [] := by simpa [Rd.done] using hd
    have h1 := (preW_stt.2 (⟨b.take n, false⟩, false) (⟨b, false⟩, false) hp hd2.1).1
    have h2 := h1.done hd2.2
    rw [if_pos (by rw [h2]; rfl)]
/-! ### What is written is read -/
theorem lsGo_app {α : Type} {one : RwM α} {enc : α → List UInt8} : ∀ (l : List α), (∀ x ∈ l, ∀ r w, one (⟨enc x ++ r, false⟩, w) = (x, (⟨r, false⟩, w))) → ∀ acc r w, lsGo one l.length acc (⟨l.flatMap enc ++ r, false⟩, w) = (acc ++ l, (⟨r, false⟩, w))
  | [], _, acc, r, w => by simp [lsGo_zero]
  | x :: l, h, acc, r, w => by
    have q : (x :: l).flatMap enc ++ r = enc x ++ (l.flatMap enc ++ r) := by simp
    rw [q, List.length_cons, lsGo_succ, if_neg (by simp), h x List.mem_cons_self]
    have := lsGo_app l (fun y hy => h y (List.mem_cons_of_mem _ hy)) (acc ++ [x]) r w
    rw [this]
    simp
theorem lsM_app {α : Type} {one : RwM α} {enc : α → List UInt8} (l : List α) (hl : (l.length : Int) ≤ 9223372036854775807) (h : ∀ x ∈ l, ∀ r w, one (⟨enc x ++ r, false⟩, w) = (x, (⟨r, false⟩, w))) (r : List UInt8) (w : Bool) : lsM one (⟨wInt l.length ++ (l.flatMap enc ++ r), false⟩, w) = (l, (⟨r, false⟩, w)) := by
  rw [lsM_eq]
  dsimp only
  rw [Rd.int_app (by omega) hl]
  dsimp only
  rw [Int.toNat_natCast, show decide ((l.length : Int) < 0) = false from decide_eq_false (by omega), Bool.or_false, lsGo_app l h]
  rfl
theorem rwM_app (x : Rw) (h1 : x.key.size ≤ 65535) (h2 : x.value.size ≤ 65535) (r : List UInt8) (w : Bool) : rwM (⟨x.bytes ++ r, false⟩, w) = (x, (⟨r, false⟩, w)) := by
  unfold rwM Rw.bytes RwM.bind RdM.lift RwM.ret
  rw [List.append_assoc]
  simp only [Rd.text_app' _ h1, Rd.text_app' _ h2]
theorem msgM_app (x : Msg) (hs : x.sm) (h1 : x.corr.size ≤ 65535) (h2 : x.body.size ≤ 65535) (r : List UInt8) (w : Bool) : msgM (⟨x.bytes ++ r, false⟩, w) = (x, (⟨r, false⟩, w)) := by
  obtain ⟨a, b, c, d, e⟩ := hs
  have := Rd.msg_appC x ⟨a, b, c, trivial, by omega, by omega⟩ r
  have e : x.tcut = x := by rw [msg_ext]; exact ⟨rfl, rfl, rfl, rfl, tcut_eq h1, tcut_eq h2⟩
  unfold msgM RdM.lift
  simp only [this, e]
theorem mright_small {m : Msg} (h : m.right = true) : m.corr.size ≤ 100 ∧ m.body.size ≤ 100 := by
  simp [Msg.right] at h; omega
theorem rright_small {r : Rw} (h : r.right = true) : r.key.size ≤ 100 ∧ r.value.size ≤ 100 := by
  simp [Rw.right, rwKey] at h; omega
theorem ob_small {o : Ob} (h : o.right = true) : o.name.size ≤ 100 ∧ (∀ r ∈ o.rows, r.key.size ≤ 100 ∧ r.value.size ≤ 100) ∧ (∀ m ∈ o.msgs, m.corr.size ≤ 100 ∧ m.body.size ≤ 100) ∧ (∀ m ∈ o.dead, m.corr.size ≤ 100 ∧ m.body.size ≤ 100) := by
  unfold Ob.right at h
  by_cases hk : o.kind = 1
  · rw [if_pos hk] at h
    simp only [Bool.and_eq_true, decide_eq_true_eq, List.all_eq_true] at h
    obtain ⟨⟨a, b⟩, ⟨⟨c, d⟩, e⟩, f⟩ := h
    have hm : o.msgs = [] := List.length_eq_zero_iff.1 (by omega)
    have hd : o.dead = [] := List.length_eq_zero_iff.1 (by omega)
    have := effName_size a
    exact ⟨by omega, fun r hr => rright_small (f r hr), by simp [hm], by simp [hd]⟩
  · rw [if_neg hk] at h
    simp only [Bool.and_eq_true, decide_eq_true_eq, List.all_eq_true] at h
    obtain ⟨⟨a, b⟩, ⟨⟨c, d⟩, e⟩, f⟩ := h
    have hr : o.rows = [] := List.length_eq_zero_iff.1 (by omega)
    have := effName_size a
    exact ⟨by omega, by simp [hr], fun m hm => mright_small (e m hm), fun m hm => mright_small (f m hm).2⟩
theorem objM_app (o : Ob) (hr : o.right = true) (hs : o.sm) (r : List UInt8) (w : Bool) : objM (⟨o.bytes ++ r, false⟩, w) = (o, (⟨r, false⟩, w)) := by
  obtain ⟨s1, s2, s3, s4⟩ := ob_small hr
  obtain ⟨_, t2, t3, t4, t5, t6, t7, t8, t9⟩ := hs
  have e : o.bytes ++ r = wText o.name ++ (wInt o.kind ++ (wInt o.limit ++ (wInt o.rows.length ++ (o.rows.flatMap Rw.bytes ++ (wInt o.msgs.length ++ (o.msgs.flatMap Msg.bytes ++ (wInt o.dead.length ++ (o.dead.flatMap Msg.bytes ++ r)))))))) := by
    simp [Ob.bytes, msgsBytes]
  have hR : ∀ x ∈ o.rows, ∀ r w, rwM (⟨x.bytes ++ r, false⟩, w) = (x, (⟨r, false⟩, w)) := fun x hx r w => rwM_app x (by have := (s2 x hx).1; omega) (by have := (s2 x hx).2; omega) r w
  have hM : ∀ x ∈ o.msgs, ∀ r w, msgM (⟨x.bytes ++ r, false⟩, w) = (x, (⟨r, false⟩, w)) := fun x hx r w => msgM_app x (t5 x hx) (by have := (s3 x hx).1; omega) (by have := (s3 x hx).2; omega) r w
  have hD : ∀ x ∈ o.dead, ∀ r w, msgM (⟨x.bytes ++ r, false⟩, w) = (x, (⟨r, false⟩, w)) := fun x hx r w => msgM_app x (t6 x hx) (by have := (s4 x hx).1; omega) (by have := (s4 x hx).2; omega) r w
  rw [e]
  unfold objM RwM.bind RdM.lift RwM.ret
  simp only [Rd.text_app' _ (show o.name.size ≤ 65535 by omega), Rd.int_app t2.1 t2.2, Rd.int_app t3.1 t3.2, lsM_app _ (by omega) hR, lsM_app _ (by omega) hM, lsM_app _ (by omega) hD]
theorem stt_obs {s : Stt} (h : s.right = true) : ∀ o ∈ s.objs, o.right = true := by
  unfold Stt.right at h
  simp only [Bool.and_eq_true, List.all_eq_true] at h
  exact fun o ho => h.1.1.2 o ho
theorem imgRead_bytes {s : Stt} (h : s.right = true) (hn : -9223372036854775808 ≤ s.next ∧ s.next ≤ 9223372036854775807) (hl : (s.objs.length : Int) ≤ 9223372036854775807) (hs : ∀ o ∈ s.objs, o.sm) (r : List UInt8) : imgRead (s.bytes ++ r) = if r = [] then some s else none := by
  have e : s.bytes ++ r = wInt s.next ++ (wInt s.objs.length ++ (s.objs.flatMap Ob.bytes ++ r)) := by simp [Stt.bytes]
  have hM : sttM (⟨s.bytes ++ r, false⟩, false) = (s, (⟨r, false⟩, false)) := by
    rw [e]
    unfold sttM RwM.bind RdM.lift RwM.ret
    simp only [Rd.int_app hn.1 hn.2, lsM_app _ hl (fun o ho r w => objM_app o (stt_obs h o ho) (hs o ho) r w)]
  unfold imgRead
  rw [hM]
  dsimp only
  rw [h]
  cases r with
  | nil => simp [Rd.done]
  | cons c r => simp [Rd.done]
/-! ### How long it is -/
theorem flatSum_le {α : Type} {f : α → List UInt8} {g : α → Nat} : ∀ (l : List α), (∀ x ∈ l, (f x).length ≤ g x) → (l.flatMap f).length ≤ (l.map g).sum
  | [], _ => by simp
  | x :: l, h => by
    have h1 := h x List.mem_cons_self
    have h2 := flatSum_le l (fun y hy => h y (List.mem_cons_of_mem _ hy))
    simp only [List.flatMap_cons, List.length_append, List.map_cons, List.sum_cons]
    omega
theorem bytes_le_size (s : Stt) : s.bytes.length ≤ s.size := by
  have h0 : ∀ l : List Msg, (msgsBytes l).length ≤ 8 + (l.map Msg.wt).sum := fun l => by
    have := flatSum_le (f := Msg.bytes) (g := Msg.wt) l (fun m _ => by
      unfold Msg.bytes Msg.wt
      simp only [List.length_append, wInt_length, wText_length, wFlag_length]
      omega)
    unfold msgsBytes
    rw [List.length_append, wInt_length]; omega
  have h1 : ∀ o : Ob, o.bytes.length ≤ o.size := fun o => by
    have a := flatSum_le (f := Rw.bytes) (g := Rw.size) o.rows (fun m _ => by
      unfold Rw.bytes Rw.size
      simp only [List.length_append, wText_length]
      omega)
    have b := h0 o.msgs
    have c := h0 o.dead
    unfold Ob.bytes Ob.size
    simp only [List.length_append, wInt_length, wText_length]
    omega
  have := flatSum_le (f := Ob.bytes) (g := Ob.size) s.objs (fun o _ => h1 o)
  unfold Stt.bytes Stt.size
  simp only [List.length_append, wInt_length]
  omega
/-! ### Readers go on -/
theorem Rd.take_le (s : Rd) (n : Nat) : (s.take n).2.bs.length ≤ s.bs.length := by
  unfold Rd.take
  split
  · exact Nat.le_refl _
  · split
    · exact Nat.zero_le _
    · simp
theorem Rd.take_lt (s : Rd) (n : Nat) : (s.take n).2.f = true ∨ (s.take n).2.bs.length + n ≤ s.bs.length := by
  unfold Rd.take
  split
  · exact .inl (by assumption)
  · split
    · exact .inl rfl
    · rename_i h
      right
      simp; omega
theorem Rd.int_snd (s : Rd) : s.int.2 = (s.take 8).2 := s.num_snd 8
def Down {α : Type} (r : RwM α) : Prop := ∀ s, (r s).2.1.bs.length ≤ s.1.bs.length
def Prog {α : Type} (r : RwM α) : Prop := Down r ∧ ∀ s, (r s).2.1.f = true ∨ (r s).2.1.bs.length < s.1.bs.length
theorem Down.ret {α : Type} (a : α) : Down (RwM.ret a) := fun _ => Nat.le_refl _
theorem Down.bind {α β : Type} {r : RwM α} {k : α → RwM β} (h : Down r) (hk : ∀ a, Down (k a)) : Down (RwM.bind r k) := fun s => Nat.le_trans (hk _ _) (h s)
theorem Prog.bind {α β : Type} {r : RwM α} {k : α → RwM β} (h : Prog r) (hk : ∀ a, Down (k a)) (hp : ∀ a, PreW (k a)) : Prog (RwM.bind r k) := by
  refine ⟨h.1.bind hk, fun s => ?_⟩
  rcases h.2 s with hf | hl
  · exact .inl ((hp _).1 _ hf)
  · exact .inr (Nat.lt_of_le_of_lt (hk _ _) hl)
theorem prog_int : Prog (RdM.lift Rd.int) := ⟨fun s => by show s.1.int.2.bs.length ≤ _; rw [Rd.int_snd]; exact s.1.take_le 8, fun s => by
  show s.1.int.2.f = true ∨ s.1.int.2.bs.length < _
  rw [Rd.int_snd]; exact (s.1.take_lt 8).imp id (fun h => by omega)⟩
theorem Rd.text_len (s : Rd) : s.text.2.bs.length ≤ s.bs.length := by
  rw [Rd.text_snd]
  exact Nat.le_trans (Rd.take_le _ _) (by rw [Rd.num_snd]; exact s.take_le 2)
theorem prog_text : Prog (RdM.lift Rd.text) := ⟨fun s => s.1.text_len, fun s => by
  show s.1.text.2.f = true ∨ s.1.text.2.bs.length < _
  rw [Rd.text_snd]
  rcases s.1.take_lt 2 with hf | hl
  · rw [← Rd.num_snd] at hf
    exact .inl (Rd.take_f hf _)
  · rw [← Rd.num_snd] at hl
    exact .inr (by have := Rd.take_le (s.1.num 2).2 (s.1.num 2).1.toNat; omega)⟩
theorem down_flag : Down (RdM.lift Rd.flag) := fun s => by
  show s.1.flag.2.bs.length ≤ _
  have h := s.1.take_le 1
  unfold Rd.flag
  split
  · rename_i b s' e
    rw [e] at h
    split
    · exact Nat.zero_le _
    · exact h
  · rename_i e1 s' e2 e
    rw [e] at h
    exact h
theorem Prog.ls {α : Type} {one : RwM α} (h : Down one) : Down (lsM one) := by
  have go : ∀ (n : Nat) (acc : List α), Down (lsGo one n acc) := fun n => by
    induction n with
    | zero => exact fun acc => Down.ret acc
    | succ n ih =>
      intro acc s
      rw [lsGo_succ]
      split
      · exact Nat.le_refl _
      · exact Nat.le_trans (ih _ _) (h s)
  have hc : Down cntM := fun s => prog_int.1 s
  exact hc.bind fun _ => go _ _
theorem prog_rw : Prog rwM := prog_text.bind (fun _ => prog_text.1.bind fun _ => .ret _) (fun _ => (PreW.lift pre_text).bind fun _ => .ret _)
theorem prog_msg : Prog msgM := by
  have e : (RdM.lift Rd.msgT : RwM Msg) = RwM.bind (RdM.lift Rd.int) fun a => RwM.bind (RdM.lift Rd.int) fun b => RwM.bind (RdM.lift Rd.int) fun c => RwM.bind (RdM.lift Rd.flag) fun d => RwM.bind (RdM.lift Rd.text) fun e => RwM.bind (RdM.lift Rd.text) fun f => RwM.ret ⟨a, b, c, d, e, f⟩ := rfl
  have h : Prog (RdM.lift Rd.msgT : RwM Msg) := by
    rw [e]
    exact prog_int.bind (fun _ => prog_int.1.bind fun _ => prog_int.1.bind fun _ => down_flag.bind fun _ => prog_text.1.bind fun _ => prog_text.1.bind fun _ => .ret _)
      (fun _ => (PreW.lift pre_int).bind fun _ => (PreW.lift pre_int).bind fun _ => (PreW.lift pre_flag).bind fun _ => (PreW.lift pre_text).bind fun _ => (PreW.lift pre_text).bind fun _ => .ret _)
  have hs : ∀ s : RdW, (msgM s).2.1 = ((RdM.lift Rd.msgT : RwM Msg) s).2.1 := fun s => s.1.msg_snd
  exact ⟨fun s => by rw [hs]; exact h.1 s, fun s => by rw [hs]; exact h.2 s⟩
theorem prog_obj : Prog objM := prog_text.bind (fun _ => prog_int.1.bind fun _ => prog_int.1.bind fun _ => (Prog.ls prog_rw.1).bind fun _ => (Prog.ls prog_msg.1).bind fun _ => (Prog.ls prog_msg.1).bind fun _ => .ret _)
  (fun _ => (PreW.lift pre_int).bind fun _ => (PreW.lift pre_int).bind fun _ => preW_rw.ls.bind fun _ => preW_msg.ls.bind fun _ => preW_msg.ls.bind fun _ => .ret _)
/-- What holds of a list that is being read. -/
def Gs {α : Type} (P : α → Prop) (N : Nat) (acc : List α) (s : RdW) : Prop := acc.length + s.1.bs.length ≤ N + (if s.1.f = true then 1 else 0) ∧ ∀ x ∈ acc, P x
theorem Gs.step {α : Type} {P : α → Prop} {N : Nat} {one : RwM α} (hp : Prog one) (hP : ∀ s : RdW, s.1.bs.length ≤ N → P (one s).1) {acc : List α} {s : RdW} (hf : s.1.f = false) (h : Gs P N acc s) : Gs P N (acc ++ [(one s).1]) (one s).2 := by
  obtain ⟨h1, h2⟩ := h
  rw [hf, if_neg (by simp)] at h1
  refine ⟨?_, fun x hx => ?_⟩
  · rw [List.length_append]
    have hd := hp.1 s
    rcases hp.2 s with he | hl
    · rw [if_pos he]
      show acc.length + 1 + _ ≤ _
      omega
    · show acc.length + 1 + _ ≤ _
      omega
  · rcases List.mem_append.1 hx with h | h
    · exact h2 x h
    · rw [List.mem_singleton.1 h]
      exact hP s (by omega)
theorem Gs.nil {α : Type} {P : α → Prop} {N : Nat} {s : RdW} (h : s.1.bs.length ≤ N) : Gs P N [] (s.1.int.2, s.2 || decide (s.1.int.1 < 0)) := by
  refine ⟨?_, fun x hx => by cases hx⟩
  have := prog_int.1 s
  have h2 : s.1.int.2.bs.length ≤ s.1.bs.length := this
  show 0 + s.1.int.2.bs.length ≤ _
  omega
theorem Gs.go {α : Type} {P : α → Prop} {N : Nat} {one : RwM α} (hp : Prog one) (hP : ∀ s : RdW, s.1.bs.length ≤ N → P (one s).1) : ∀ (n : Nat) (acc : List α) (s : RdW), Gs P N acc s → Gs P N (lsGo one n acc s).1 (lsGo one n acc s).2
  | 0, _, _, h => h
  | n + 1, acc, s, h => by
    rw [lsGo_succ]
    split
    · exact h
    · exact Gs.go hp hP n _ _ (h.step hp hP (by simpa using ‹¬ s.1.f = true›))
theorem Gs.ls {α : Type} {P : α → Prop} {N : Nat} {one : RwM α} (hp : Prog one) (hP : ∀ s : RdW, s.1.bs.length ≤ N → P (one s).1) (s : RdW) (h : s.1.bs.length ≤ N) : Gs P N (lsM one s).1 (lsM one s).2 := Gs.go hp hP _ _ _ (Gs.nil h)
theorem Rd.int_rng (s : Rd) : -9223372036854775808 ≤ s.int.1 ∧ s.int.1 ≤ 9223372036854775807 := by
  show _ ≤ i64 _ ∧ i64 _ ≤ _
  unfold i64; omega
theorem Rd.text_size (s : Rd) : s.text.1.size ≤ 65535 := by
  have h := s.num_lt 2
  have h0 := s.num_ge 2
  unfold Rd.text
  split
  · exact Nat.zero_le _
  · rename_i l s' e
    have hl : l.length ≤ (s.num 2).1.toNat := by
      unfold Rd.take at e
      split at e
      · cases e
      · split at e
        · cases e
        · rw [← Option.some.inj (Prod.mk.inj e).1, List.length_take]; omega
    show l.toArray.size ≤ _
    rw [List.size_toArray]
    omega
theorem rwM_sm (s : RdW) : (rwM s).1.sm := by
  have a := s.1.text_size
  have b := s.1.text.2.text_size
  show s.1.text.1.size ≤ _ ∧ s.1.text.2.text.1.size ≤ _
  omega
theorem Rd.msgT_sm (s : Rd) : s.msgT.1.sm := by
  unfold Rd.msgT
  exact ⟨Rd.int_rng _, Rd.int_rng _, Rd.int_rng _, Nat.le_trans (Rd.text_size _) (by omega), Nat.le_trans (Rd.text_size _) (by omega)⟩
theorem msgM_sm (s : RdW) : (msgM s).1.sm := by
  show s.1.msg.1.sm
  unfold Rd.msg
  split
  · have h : Msg.zero.sm := ⟨by decide, by decide, by decide, by decide, by decide⟩
    exact h
  · exact s.1.msgT_sm
theorem objM_sm (s : RdW) (h : s.1.bs.length ≤ 10000000000) : (objM s).1.sm ∧ (objM s).1.rows.length ≤ 10000000001 ∧ (objM s).1.msgs.length ≤ 10000000001 ∧ (objM s).1.dead.length ≤ 10000000001 := by
  have e : ∃ s0 : RdW, s0 = (s.1.text.2.int.2.int.2, s.2) := ⟨_, rfl⟩
  obtain ⟨s0, hs0⟩ := e
  have l0 : s0.1.bs.length ≤ 10000000000 := by
    rw [hs0]
    have a := s.1.text_len
    have b := prog_int.1 (s.1.text.2, s.2)
    have c := prog_int.1 (s.1.text.2.int.2, s.2)
    exact Nat.le_trans c (Nat.le_trans b (Nat.le_trans a h))
  have e : objM s = (⟨s.1.text.1, s.1.text.2.int.1, s.1.text.2.int.2.int.1, (lsM rwM s0).1, (lsM msgM (lsM rwM s0).2).1, (lsM msgM (lsM msgM (lsM rwM s0).2).2).1⟩, (lsM msgM (lsM msgM (lsM rwM s0).2).2).2) := by rw [hs0]; rfl
  have g1 := Gs.ls (P := Rw.sm) (N := 10000000000) prog_rw (fun s _ => rwM_sm s) s0 l0
  have l1 := Nat.le_trans (Prog.ls prog_rw.1 s0) l0
  have g2 := Gs.ls (P := Msg.sm) (N := 10000000000) prog_msg (fun s _ => msgM_sm s) _ l1
  have l2 := Nat.le_trans (Prog.ls prog_msg.1 (lsM rwM s0).2) l1
  have g3 := Gs.ls (P := Msg.sm) (N := 10000000000) prog_msg (fun s _ => msgM_sm s) _ l2
  have k : ∀ {α : Type} {P : α → Prop} {l : List α} {s : RdW}, Gs P 10000000000 l s → l.length ≤ 10000000001 := fun {α P l s} h => by
    have := h.1
    split at this <;> omega
  have k1 := k g1; have k2 := k g2; have k3 := k g3
  rw [e]
  exact ⟨⟨Nat.le_trans (Rd.text_size _) (by omega), Rd.int_rng _, Rd.int_rng _, g1.2, g2.2, g3.2, by show (lsM rwM s0).1.length ≤ _; omega, by show (lsM msgM _).1.length ≤ _; omega, by show (lsM msgM _).1.length ≤ _; omega⟩, k1, k2, k3⟩
end Go.Proofs.Ytlellgnklohclaa.L
