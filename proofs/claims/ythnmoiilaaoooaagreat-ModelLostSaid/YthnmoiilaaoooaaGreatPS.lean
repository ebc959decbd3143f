/- Plain: what changes make of a state. -/
import Derived.Test.YthnmoiilaaoooaaGreatSA
namespace Go.Proofs.YthnmoiilaaoooaaGreat.L
open Go Go.Proofs
set_option linter.unusedSimpArgs false
set_option linter.unusedVariables false

theorem nestF_put {l l' : List Oz} {ρ : World} {L : List HP} {w : World} (o : Oz) (hm : ∀ p ∈ l', p ∈ l ∨ p = o) (m : NestF l ∈ L) (m1 : RowF Kd.rw o.z.q1 o.x.rows ∈ L) (m2 : RowF Kd.msg o.z.q2 o.x.msgs ∈ L) (m3 : RowF Kd.msg o.z.q3 o.x.dead ∈ L) (h : St ρ L w) : St ρ (NestF l' :: L) w := by
  obtain ⟨g, q, a, b, c, d⟩ := h.body
  obtain ⟨_, _, hn⟩ := sepAll_mem m d
  obtain ⟨_, _, h1⟩ := sepAll_mem m1 d
  obtain ⟨_, _, h2⟩ := sepAll_mem m2 d
  obtain ⟨_, _, h3⟩ := sepAll_mem m3 d
  refine ⟨h.os, h.tape, h.output, g, q, a, b, c, sepAll_cons_per (A := NestF l') rfl (h1 := fun _ => none) (fun p hp => ?_) d⟩
  rcases hm p hp with hp | hp
  · exact (hn : ∀ o ∈ l, _) p hp
  · rw [hp]
    exact ⟨(RowF _ _ _).free rfl h1, (RowF _ _ _).free rfl h2, (RowF _ _ _).free rfl h3⟩
theorem rowF_nilA {α : Type} {k : Kd α} {ρ : World} {L : List HP} {w : World} (h : St ρ L w) : St ρ (RowF k none [] :: L) w := rowO_freeze (e := 0) (cap := 0) (rowO_nil (k := k) 0 h)
def insAt {α : Type} (l : List α) (i : Nat) (x : α) : List α := l.take i ++ [x] ++ l.drop i
def findM (l : List Msg) (id : Int) : Int := idxP (fun m => decide (m.id = id)) l
def findO (s : Stt) (name : ByteArray) : Int := idxP (fun o => decide (o.name = name)) s.objs
/-- The place ahead of the first that answers; else the end. -/
def plc {α : Type} (p : α → Bool) (l : List α) : Nat := if idxP p l < 0 then l.length else (idxP p l).toNat
def addM (l : List Msg) (m : Msg) : List Msg := insAt l (plc (fun x => decide (0 < cmpM x m)) l) m
def cutM (l : List Msg) (id : Int) : List Msg × Bool := if findM l id < 0 then (l, false) else (l.eraseIdx (findM l id).toNat, true)
def claimM (l : List Msg) (id : Int) (on : Bool) : List Msg × Bool :=
  if findM l id < 0 then (l, false)
  else if (l.getD (findM l id).toNat ⟨0, 0, 0, false, ⟨#[]⟩, ⟨#[]⟩⟩).claimed = on then (l, false)
  else (l.set (findM l id).toNat { l.getD (findM l id).toNat ⟨0, 0, 0, false, ⟨#[]⟩, ⟨#[]⟩⟩ with claimed := on }, true)
def freeO (o : Ob) (id : Int) (tried : Bool) : Ob × Bool :=
  if findM o.msgs id < 0 then (o, false)
  else if (o.msgs.getD (findM o.msgs id).toNat ⟨0, 0, 0, false, ⟨#[]⟩, ⟨#[]⟩⟩).claimed = false then (o, false)
  else if tried = false then ({ o with msgs := o.msgs.set (findM o.msgs id).toNat { o.msgs.getD (findM o.msgs id).toNat ⟨0, 0, 0, false, ⟨#[]⟩, ⟨#[]⟩⟩ with claimed := false } }, true)
  else if o.limit ≤ (o.msgs.getD (findM o.msgs id).toNat ⟨0, 0, 0, false, ⟨#[]⟩, ⟨#[]⟩⟩).tried.retry then ({ o with msgs := o.msgs.eraseIdx (findM o.msgs id).toNat, dead := o.dead ++ [(o.msgs.getD (findM o.msgs id).toNat ⟨0, 0, 0, false, ⟨#[]⟩, ⟨#[]⟩⟩).tried] }, true)
  else ({ o with msgs := o.msgs.set (findM o.msgs id).toNat (o.msgs.getD (findM o.msgs id).toNat ⟨0, 0, 0, false, ⟨#[]⟩, ⟨#[]⟩⟩).tried }, true)
def whereM (o : Ob) (id : Int) : Int := if 0 ≤ findM o.msgs id then 1 else if 0 ≤ findM o.dead id then 2 else 0
def lbR (l : List Rw) (key : ByteArray) : Nat := (l.takeWhile (fun r => decide (cmpB r.key key < 0))).length
def fndR (l : List Rw) (key : ByteArray) : Bool := (l[lbR l key]?).any (fun r => decide (cmpB r.key key = 0))
def putR (l : List Rw) (r : Rw) : List Rw := if fndR l r.key = true then l.set (lbR l r.key) r else insAt l (lbR l r.key) r
def cutR (l : List Rw) (key : ByteArray) : List Rw × Bool := if fndR l key = true then (l.eraseIdx (lbR l key), true) else (l, false)
def hasM (s : Stt) (id : Int) : Bool := s.objs.any (fun o => decide (whereM o id ≠ 0))
def makeS (s : Stt) (e : Eff) : Stt × Int :=
  if 0 ≤ findO s e.object then (s, 4)
  else if 20 ≤ s.objs.length then (s, 6)
  else (⟨s.next, insAt s.objs (plc (fun o => decide (0 < cmpB o.name e.object)) s.objs) ⟨e.object, e.n, e.limit, [], [], []⟩⟩, 0)
def nextS (s : Stt) (n : Int) : Stt × Int := if n < s.next then (s, 1) else (⟨n, s.objs⟩, 0)
/-- What a change of a queue makes of it. -/
def queueO (s : Stt) (o : Ob) (e : Eff) : Ob × Int :=
  if e.kind = 4 then (if s.next ≤ e.msg.id ∨ e.msg.claimed = true then (o, 1) else if hasM s e.msg.id = true then (o, 4) else ({ o with msgs := addM o.msgs e.msg }, 0))
  else if e.kind = 5 then ({ o with msgs := (cutM o.msgs e.n).1 }, if (cutM o.msgs e.n).2 = true then 0 else 7)
  else if e.kind = 6 then (if findM o.msgs e.n < 0 then (o, 7) else ({ o with msgs := (claimM o.msgs e.n true).1 }, if (claimM o.msgs e.n true).2 = true then 0 else 2))
  else if e.kind = 7 then ((freeO o e.n e.tried).1, if (freeO o e.n e.tried).2 = true then 0 else 7)
  else (o, 7)
def tableO (o : Ob) (e : Eff) : Ob × Int :=
  if e.kind = 2 then ({ o with rows := putR o.rows ⟨e.key, e.value⟩ }, 0)
  else ({ o with rows := (cutR o.rows e.key).1 }, if (cutR o.rows e.key).2 = true then 0 else 7)
def Ob.zero : Ob := ⟨⟨#[]⟩, 0, 0, [], [], []⟩
def doS (s : Stt) (e : Eff) : Stt × Int :=
  if e.right = false then (s, 1)
  else if e.kind = 1 then makeS s e
  else if e.kind = 8 then nextS s e.n
  else if findO s e.object < 0 then (s, 3)
  else if decide (e.kind = 2 ∨ e.kind = 3) ≠ decide ((s.objs.getD (findO s e.object).toNat Ob.zero).kind = 1) then (s, 5)
  else if e.kind = 2 ∨ e.kind = 3 then (⟨s.next, s.objs.set (findO s e.object).toNat (tableO (s.objs.getD (findO s e.object).toNat Ob.zero) e).1⟩, (tableO (s.objs.getD (findO s e.object).toNat Ob.zero) e).2)
  else (⟨s.next, s.objs.set (findO s e.object).toNat (queueO s (s.objs.getD (findO s e.object).toNat Ob.zero) e).1⟩, (queueO s (s.objs.getD (findO s e.object).toNat Ob.zero) e).2)
def doAll : Stt → List Eff → Stt × Int
  | s, [] => (s, 0)
  | s, e :: l => if (doS s e).2 = 0 then doAll (doS s e).1 l else (⟨0, []⟩, (doS s e).2)
def applyS (s : Stt) (l : List Eff) : Stt × Int := if s.right = false then (⟨0, []⟩, 1) else doAll s l
def claimsO (o : Ob) : List Eff := (o.msgs.filter (·.claimed)).map (fun m => ⟨7, o.name, ⟨#[]⟩, ⟨#[]⟩, m.id, 0, true, ⟨0, 0, 0, false, ⟨#[]⟩, ⟨#[]⟩⟩⟩)
def claimsS (s : Stt) : List Eff := s.objs.flatMap claimsO
end Go.Proofs.YthnmoiilaaoooaaGreat.L
