/- A message as an argument. -/
import Derived.Test.YtlellgnklohclaaM4
import Derived.Test.YtlellgnklohclaaRead
namespace Go.Proofs.Ytlellgnklohclaa.L
open Go Go.RowKit Go.ChangeShapes

def Msg.fits (x : Msg) : Prop := (-9223372036854775808 ≤ x.id ∧ x.id ≤ 9223372036854775807) ∧ (-9223372036854775808 ≤ x.pri ∧ x.pri ≤ 9223372036854775807) ∧ (-9223372036854775808 ≤ x.retry ∧ x.retry ≤ 9223372036854775807) ∧ True ∧ (x.corr.size : Int) ≤ 9223372036854775807 ∧ (x.body.size : Int) ≤ 9223372036854775807
theorem msg_len (cs : List Value) (h : cs.length = 6) : ∃ v0 v1 v2 v3 v4 v5, cs = [v0, v1, v2, v3, v4, v5] := by
  match cs, h with
  | [v0, v1, v2, v3, v4, v5], _ => exact ⟨v0, v1, v2, v3, v4, v5, rfl⟩
theorem opens_msg {H : Type} {enc : TypeId × Value → H} {W : World} : Opens enc Try.prog W Kd.msg 24 Msg.fits := fun fuel cs y h => by
  obtain ⟨hl, n, hf⟩ := opens_fields Try.underlying24 h
  have hl2 : cs.length = 6 := hl.trans (by kernel_rfl)
  obtain ⟨v0, v1, v2, v3, v4, v5, rfl⟩ := msg_len cs hl2
  have cb : Try.prog.cellsOf 4 = 1 := by kernel_rfl
  have ci : Try.prog.cellsOf 3 = 1 := by kernel_rfl
  have cs : Try.prog.cellsOf 9 = 1 := by kernel_rfl
  obtain ⟨y0, h0⟩ := hf 0 _ rfl
  replace h0 : DataW.trod enc Try.prog W 0 (fun _ => true) true n 3 (([v0, v1, v2, v3, v4, v5].drop 0).take (Try.prog.cellsOf 3)) = some y0 := h0
  rw [ci] at h0
  obtain ⟨x0, e0, b0⟩ := opens_int Try.underlying3 _ _ _ h0
  have u0 : v0 = Value.int .i64 x0 := (List.cons.inj (show [v0] = [Value.int .i64 x0] from e0)).1
  obtain ⟨y1, h1⟩ := hf 1 _ rfl
  replace h1 : DataW.trod enc Try.prog W 0 (fun _ => true) true n 3 (([v0, v1, v2, v3, v4, v5].drop 1).take (Try.prog.cellsOf 3)) = some y1 := h1
  rw [ci] at h1
  obtain ⟨x1, e1, b1⟩ := opens_int Try.underlying3 _ _ _ h1
  have u1 : v1 = Value.int .i64 x1 := (List.cons.inj (show [v1] = [Value.int .i64 x1] from e1)).1
  obtain ⟨y2, h2⟩ := hf 2 _ rfl
  replace h2 : DataW.trod enc Try.prog W 0 (fun _ => true) true n 3 (([v0, v1, v2, v3, v4, v5].drop 2).take (Try.prog.cellsOf 3)) = some y2 := h2
  rw [ci] at h2
  obtain ⟨x2, e2, b2⟩ := opens_int Try.underlying3 _ _ _ h2
  have u2 : v2 = Value.int .i64 x2 := (List.cons.inj (show [v2] = [Value.int .i64 x2] from e2)).1
  obtain ⟨y3, h3⟩ := hf 3 _ rfl
  replace h3 : DataW.trod enc Try.prog W 0 (fun _ => true) true n 4 (([v0, v1, v2, v3, v4, v5].drop 3).take (Try.prog.cellsOf 4)) = some y3 := h3
  rw [cb] at h3
  obtain ⟨x3, e3, b3⟩ := opens_bool Try.underlying4 _ _ _ h3
  have u3 : v3 = Value.bool x3 := (List.cons.inj (show [v3] = [Value.bool x3] from e3)).1
  obtain ⟨y4, h4⟩ := hf 4 _ rfl
  replace h4 : DataW.trod enc Try.prog W 0 (fun _ => true) true n 9 (([v0, v1, v2, v3, v4, v5].drop 4).take (Try.prog.cellsOf 9)) = some y4 := h4
  rw [cs] at h4
  obtain ⟨x4, e4, b4⟩ := opens_str Try.underlying9 _ _ _ h4
  have u4 : v4 = Value.string x4 := (List.cons.inj (show [v4] = [Value.string x4] from e4)).1
  obtain ⟨y5, h5⟩ := hf 5 _ rfl
  replace h5 : DataW.trod enc Try.prog W 0 (fun _ => true) true n 9 (([v0, v1, v2, v3, v4, v5].drop 5).take (Try.prog.cellsOf 9)) = some y5 := h5
  rw [cs] at h5
  obtain ⟨x5, e5, b5⟩ := opens_str Try.underlying9 _ _ _ h5
  have u5 : v5 = Value.string x5 := (List.cons.inj (show [v5] = [Value.string x5] from e5)).1
  subst u0 u1 u2 u3 u4 u5
  exact ⟨⟨x0, x1, x2, x3, x4, x5⟩, rfl, b0, b1, b2, b3, b4, b5⟩
end Go.Proofs.Ytlellgnklohclaa.L
