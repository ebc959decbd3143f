/- Contracts whose memory is told under 'there is'. -/
import Derived.Test.YthnmoiilaaoooaaGreatLD
namespace Go.Proofs.YthnmoiilaaoooaaGreat.L
open Go

theorem St.exMid {ι : Type} {f : ι → List HP} {ρ : World} {M L : List HP} {w : World} (i : ι) (h : St ρ (M ++ (f i ++ L)) w) : St ρ (M ++ (HP.ex f :: L)) w := by
  obtain ⟨g, k, ap, lg, lk, d⟩ := h.body
  obtain ⟨h1, h2, ap1, l1, l2, d1, d2⟩ := sepAll_split d
  obtain ⟨h3, h4, ap2, l3, l4, d3, d4⟩ := sepAll_split d2
  exact ⟨h.os, h.tape, h.output, g, k, ap, lg, lk, sepAll_append ap1 l1 l2 d1 ⟨h3, h4, ap2, l3, l4, ⟨i, d3⟩, d4⟩⟩
theorem Fn.exT {ι ι' : Type} {f : ι → List HP} {f' : ι' → List HP} {P : Program} {fid : FuncId} {args : Array Value} {Ψ : Value → List HP → Prop} (i0 : ι) (h : ∀ i, Fn P fid args (f i) (fun r post => ∃ j M, Ψ r M ∧ post = M ++ f' j)) : Fn P fid args [HP.ex f] (fun r post => ∃ M, Ψ r M ∧ post = M ++ [HP.ex f']) :=
  ⟨(h i0).1, fun ρ L w hs => by
    obtain ⟨i, hi⟩ := St.exO hs
    refine ((h i).2 ρ L w hi).mono fun e w' ⟨v, post, he, ⟨j, M, hΨ, hp⟩, hst⟩ => ?_
    subst hp
    rw [List.append_assoc] at hst
    refine ⟨v, M ++ [HP.ex f'], he, ⟨M, hΨ, rfl⟩, ?_⟩
    rw [List.append_assoc]
    exact hst.exMid j⟩
/-- What was picked put back. -/
theorem Pick.unsep {L : List HP} {A : HP} {L' : List HP} (p : Pick L A L') : ∀ {g h}, sepAll (A :: L') g h → sepAll L g h := by
  induction p with
  | here => exact fun h => h
  | @there A B L L' p ih =>
    rintro g h ⟨ha, h2, ap, l1, l2, hA, hb, h3, ap', m1, m2, hB, hl⟩
    refine ⟨hb, Hp.join ha h3, ?_, Hp.le_trans m1 l2, Hp.join_le l1 (Hp.le_trans m2 l2), hB, ih ?_⟩
    · exact Hp.apart_symm (Hp.join_apart (Hp.apart_le ap (Hp.le_refl _) m1) (Hp.apart_symm ap'))
    · have ap2 : Hp.apart ha h3 := Hp.apart_le ap (Hp.le_refl _) m2
      exact ⟨ha, h3, ap2, Hp.le_joinL _ _, Hp.le_joinR ap2, hA, hl⟩
/-- All of f's, of a list. -/
def AllO {ι : Type} (f : ι → HP) (l : List ι) : HP := HP.own (fun g h => sepAll (l.map f) g h) (fun hg h => sepAll_mono hg (Hp.le_refl _) h)
theorem pick_map {ι : Type} (f : ι → HP) : ∀ {l : List ι} {i : Nat} {x : ι}, l[i]? = some x → Pick (l.map f) (f x) ((l.eraseIdx i).map f)
  | [], _, _, h => by simp at h
  | y :: l, 0, x, h => by simp at h; subst h; exact Pick.here
  | y :: l, i + 1, x, h => Pick.there (pick_map f (l := l) (i := i) h)
theorem pick_map_set {ι : Type} (f : ι → HP) : ∀ {l : List ι} {i : Nat} {x : ι}, i < l.length → Pick ((l.set i x).map f) (f x) ((l.eraseIdx i).map f)
  | [], _, _, h => by simp at h
  | y :: l, 0, x, h => Pick.here
  | y :: l, i + 1, x, h => Pick.there (pick_map_set f (l := l) (i := i) (by simpa using h))
theorem pick_map_ins {ι : Type} (f : ι → HP) (x : ι) : ∀ {l : List ι} {i : Nat}, i ≤ l.length → Pick ((l.take i ++ [x] ++ l.drop i).map f) (f x) (l.map f)
  | _, 0, h => Pick.here
  | [], i + 1, h => by simp at h
  | y :: l, i + 1, h => Pick.there (pick_map_ins f x (l := l) (i := i) (by simpa using h))
section
variable {ι : Type} {f : ι → HP} {l : List ι} {ρ : World} {L : List HP} {w : World}
theorem allO_out {i : Nat} {x : ι} (hx : l[i]? = some x) (h : St ρ (AllO f l :: L) w) : St ρ (f x :: AllO f (l.eraseIdx i) :: L) w := by
  obtain ⟨g, k, a, b, c, h1, h2, ap, l1, l2, ha, d⟩ := h.body
  obtain ⟨p1, p2, ap2, m1, m2, hp1, hp2⟩ := (pick_map f hx).sep (ha : sepAll (l.map f) g h1)
  have ap3 : Hp.apart p2 h2 := Hp.apart_le ap m2 (Hp.le_refl _)
  have ap4 : Hp.apart p1 h2 := Hp.apart_le ap m1 (Hp.le_refl _)
  refine ⟨h.os, h.tape, h.output, g, k, a, b, c, p1, Hp.join p2 h2, Hp.apart_symm (Hp.join_apart (Hp.apart_symm ap2) (Hp.apart_symm ap4)), Hp.le_trans m1 l1, Hp.join_le (Hp.le_trans m2 l1) l2, hp1, p2, h2, ap3, Hp.le_joinL _ _, Hp.le_joinR ap3, hp2, d⟩
theorem allO_put {l' : List ι} {x : ι} (hp : Pick (l'.map f) (f x) (l.map f)) (h : St ρ (f x :: AllO f l :: L) w) : St ρ (AllO f l' :: L) w := by
  obtain ⟨g, k, a, b, c, h1, h2, ap, l1, l2, hx, h3, h4, ap2, m1, m2, hl, d⟩ := h.body
  have ap3 : Hp.apart h1 h3 := Hp.apart_le ap (Hp.le_refl _) m1
  have ap4 : Hp.apart h1 h4 := Hp.apart_le ap (Hp.le_refl _) m2
  refine ⟨h.os, h.tape, h.output, g, k, a, b, c, Hp.join h1 h3, h4, Hp.join_apart ap4 ap2, Hp.join_le l1 (Hp.le_trans m1 l2), Hp.le_trans m2 l2, ?_, d⟩
  exact hp.unsep ⟨h1, h3, ap3, Hp.le_joinL _ _, Hp.le_joinR ap3, hx, hl⟩
theorem allO_nil (f : ι → HP) (h : St ρ L w) : St ρ (AllO f [] :: L) w := by
  obtain ⟨g, k, a, b, c, d⟩ := h.body
  exact ⟨h.os, h.tape, h.output, g, k, a, b, c, fun _ => none, k, fun _ => .inl rfl, Hp.none_le _, Hp.le_refl _, trivial, d⟩
theorem drop_map_filter (f : ι → HP) (p : ι → Bool) : ∀ (l : List ι) {g h}, sepAll (l.map f) g h → sepAll ((l.filter p).map f) g h
  | [], _, _, h => h
  | x :: l, g, h, ⟨h1, h2, ap, l1, l2, ha, hl⟩ => by
    rw [List.filter_cons]
    split
    · exact ⟨h1, h2, ap, l1, l2, ha, drop_map_filter f p l hl⟩
    · exact sepAll_mono (Hp.le_refl _) l2 (drop_map_filter f p l hl)
theorem allO_filter (p : ι → Bool) (h : St ρ (AllO f l :: L) w) : St ρ (AllO f (l.filter p) :: L) w :=
  h.turn (fun g hh ha => drop_map_filter f p l ha)
end
end Go.Proofs.YthnmoiilaaoooaaGreat.L
