/- Plain: the locks' table without addresses: asking. -/
import Derived.Test.YtcpkcjabmookmaaGreatJ4
namespace Go.Proofs.YtcpkcjabmookmaaGreat.L
open Go Go.Proofs
set_option linter.unusedSimpArgs false
set_option linter.unusedVariables false

structure Ent where
  name : Nm
  k : Lk
def E.abs (e : E) : Ent := ⟨e.name, e.k⟩
def lbT (T : List Ent) (n : Nm) : Nat := (T.takeWhile (fun e => decide (cmpN e.name n < 0))).length
def fndT (T : List Ent) (n : Nm) : Bool := (T[lbT T n]?).any (fun e => decide (cmpN e.name n = 0))
def waitT (T : List Ent) (who : Int) : Option Ent := T.find? (fun e => decide ((e.k.my who).wants ≠ 0))
def SrtT (T : List Ent) : Prop := T.Pairwise (fun a b => cmpN a.name b.name < 0)
def Ent.nil : Ent := ⟨Nm.nil, ⟨[], []⟩⟩
def kAt (T : List Ent) (i : Nat) : Lk := (T.getD i Ent.nil).k
def err (b : Bool) : Int := if b = true then 0 else 13
/-- Asking: the error, the entries, how many hold or wait. -/
def askT (T : List Ent) (n : Int) (who : Int) (nm : Nm) (m : Int) : Int × List Ent × Int :=
  if nm.plain.2 = false then (1, T, n)
  else if (waitT T who).isSome = true then (2, T, n)
  else if modeOf m = 0 then (0, T, n)
  else if fndT T nm.plain.1 = true then
    if (kAt T (lbT T nm.plain.1)).mine who = true then (err ((kAt T (lbT T nm.plain.1)).ask who m).1, T.set (lbT T nm.plain.1) ⟨nm.plain.1, ((kAt T (lbT T nm.plain.1)).ask who m).2⟩, n)
    else if 200 ≤ n then (10, T, n)
    else (err ((kAt T (lbT T nm.plain.1)).ask who m).1, T.set (lbT T nm.plain.1) ⟨nm.plain.1, ((kAt T (lbT T nm.plain.1)).ask who m).2⟩, n + 1)
  else if 200 ≤ n then (10, T, n)
  else (err ((Lk.mk [] []).ask who m).1, T.take (lbT T nm.plain.1) ++ [⟨nm.plain.1, ((Lk.mk [] []).ask who m).2⟩] ++ T.drop (lbT T nm.plain.1), n + 1)
/-- What somebody holds. -/
def modeT (T : List Ent) (who : Int) (nm : Nm) : Int := if nm.plain.2 = true ∧ fndT T nm.plain.1 = true then ((kAt T (lbT T nm.plain.1)).my who).mode else 0
theorem lbN_abs (es : List E) (n : Nm) : lbN es n = lbT (es.map E.abs) n := by
  unfold lbN lbT
  rw [List.takeWhile_map, List.length_map]
  rfl
theorem fndN_abs (es : List E) (n : Nm) : fndN es n = fndT (es.map E.abs) n := by
  unfold fndN fndT
  rw [← lbN_abs, List.getElem?_map]
  cases es[lbN es n]? <;> rfl
theorem tWait_abs (es : List E) (who : Int) : (tWait es who).map E.abs = waitT (es.map E.abs) who := by
  unfold tWait waitT
  rw [List.find?_map]
  rfl
theorem tWait_name (es : List E) (who : Int) : (tWait es who).map E.name = (waitT (es.map E.abs) who).map Ent.name := by
  rw [← tWait_abs, Option.map_map]; rfl
theorem tWait_some (es : List E) (who : Int) : (tWait es who).isSome = (waitT (es.map E.abs) who).isSome := by
  rw [← tWait_abs, Option.isSome_map]
theorem srt_abs (es : List E) : Srt es ↔ SrtT (es.map E.abs) := by
  unfold Srt SrtT
  rw [List.pairwise_map]
  exact Iff.rfl
theorem kAt_abs {es : List E} {i : Nat} {e : E} (h : es[i]? = some e) : kAt (es.map E.abs) i = e.k := by
  unfold kAt
  rw [List.getD_eq_getElem?_getD, List.getElem?_map, h]; rfl
theorem fndN_at {es : List E} {n : Nm} (h : fndN es n = true) : ∃ e, es[lbN es n]? = some e ∧ e.name = n := by
  unfold fndN at h
  cases he : es[lbN es n]? with
  | none => rw [he] at h; cases h
  | some e => rw [he] at h; exact ⟨e, rfl, cmpN_zero.1 (of_decide_eq_true h)⟩
/-- Rows whose cells are the same. -/
theorem rowO_cells {α : Type} {n : Nat} {enc : α → List Value} {hl : ∀ x, (enc x).length = n} {h1 : ∀ x, ∀ v ∈ enc x, v.oneCell' = true} {ty : TypeId} {q : Option Addr} {c : Nat} {l m : List α} {ρ : World} {L : List HP} {w : World} (he : l.map enc = m.map enc) (h : St ρ (RowO (Kd.flat n enc hl h1) ty q c l :: L) w) : St ρ (RowO (Kd.flat n enc hl h1) ty q c m :: L) w :=
  h.turn (fun g hh ha => by
    have hlen : l.length = m.length := by have := congrArg List.length he; simpa using this
    rcases (ha : _ ∨ _) with ⟨hp, hc, hz⟩ | ⟨b, o, cs, hp, hlc, hb, hs, hr⟩
    · subst hz
      exact .inl ⟨hp, hc, List.length_eq_zero_iff.1 (by rw [← hlen]; rfl)⟩
    · refine .inr ⟨b, o, cs, hp, by rw [← hlen]; exact hlc, hb, hs, fun i x hx => ?_⟩
      have hi : i < l.length := by rw [hlen]; exact (List.getElem?_eq_some_iff.1 hx).1
      obtain ⟨y, hy⟩ : ∃ y, l[i]? = some y := ⟨_, List.getElem?_eq_getElem hi⟩
      have hxy : enc y = enc x := by
        have := congrArg (fun z => z[i]?) he
        simpa [hx, hy] using this
      obtain ⟨ds, hrd, hc⟩ := hr i y hy
      have hrd : ds = enc y := hrd
      exact ⟨ds, (show ds = enc x from hrd.trans hxy), hc⟩)
theorem map_set_cells {es : List E} {i : Nat} {e e' : E} (he : es[i]? = some e) (hc : e.cells = e'.cells) : es.map E.cells = (es.set i e').map E.cells := by
  rw [List.map_set, ← hc]
  apply List.ext_getElem?
  intro j
  rw [List.getElem?_set]
  split
  · rename_i hij
    subst hij
    rw [List.getElem?_map, he]
    rw [List.length_map, if_pos (List.getElem?_eq_some_iff.1 he).1]
    rfl
  · rfl
end Go.Proofs.YtcpkcjabmookmaaGreat.L
