/- Contracts whose memory is told under 'there is'. -/
import Derived.Test.YtfpkeanimkgpaaaLD
namespace Go.Proofs.Ytfpkeanimkgpaaa.L
open Go

theorem St.exMid {ι : Type} {f : ι → List HP} {ρ : World} {M L : List HP} {w : World} (i : ι) (h : St ρ (M ++ (f i ++ L)) w) : St ρ (M ++ (HP.ex f :: L)) w := by
  obtain ⟨g, k, ap, lg, lk, d⟩ := h.body
  obtain ⟨h1, h2, ap1, l1, l2, d1, d2⟩ := sepAll_split d
  obtain ⟨h3, h4, ap2, l3, l4, d3, d4⟩ := sepAll_split d2
  exact ⟨h.os, h.tape, h.output, g, k, ap, lg, lk, sepAll_append ap1 l1 l2 d1 ⟨h3, h4, ap2, l3, l4, ⟨i, d3⟩, d4⟩⟩
theorem Fn.exT {ι ι' : Type} {f : ι → List HP} {f' : ι' → List HP} {P : Program} {fid : FuncId} {args : Array Value} {Ψ : Value → List HP → Prop} (i0 : ι) (h : ∀ i, Fn P fid args (f i) (fun r post => ∃ j M, Ψ r M ∧ post = M ++ f' j)) : Fn P fid args [HP.ex f] (fun r post => ∃ M, Ψ r M ∧ post = M ++ [HP.ex f']) :=
  ⟨(h i0).1, fun ρ L w hs => by
    obtain ⟨i, hi⟩ := St.exO hs
    refine ((h i).2 ρ L w hi).mono fun e w' ⟨v, post, he, ⟨j, M, hΨ, hp⟩, hst⟩ => ?_
    subst hp
    rw [List.append_assoc] at hst
    refine ⟨v, M ++ [HP.ex f'], he, ⟨M, hΨ, rfl⟩, ?_⟩
    rw [List.append_assoc]
    exact hst.exMid j⟩
end Go.Proofs.Ytfpkeanimkgpaaa.L
