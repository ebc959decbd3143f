/- The law WaitsTell, walked. -/
import Derived.Test.YtfpkeanimkgpaaaW5
import Derived.OpenShut
namespace Go.Proofs.Ytfpkeanimkgpaaa.L
open Go Go.Proofs
attribute [local irreducible] pv fv pt fz RowF RowO rowP old pure_ elA
set_option maxRecDepth 100000
set_option linter.unusedSimpArgs false
set_option linter.unusedVariables false

theorem ring_nil {who : Int} {R : List Int} (h : RingOf [] who R) : R = [] := List.length_eq_zero_iff.1 (Nat.le_zero.1 h.len)
theorem ring_12 : RingOf [⟨1, 2⟩, ⟨2, 1⟩] 1 [1, 2] := by
  refine ⟨by decide, fun x => ⟨fun h => ?_, fun ⟨h, _⟩ => ?_⟩⟩
  · have f12 : (2 : Int) ∈ adjF [⟨1, 2⟩, ⟨2, 1⟩] 1 := by decide
    have f21 : (1 : Int) ∈ adjF [⟨1, 2⟩, ⟨2, 1⟩] 2 := by decide
    have b12 : (2 : Int) ∈ adjF (([⟨1, 2⟩, ⟨2, 1⟩] : List P2).map P2.swp) 1 := by decide
    have b21 : (1 : Int) ∈ adjF (([⟨1, 2⟩, ⟨2, 1⟩] : List P2).map P2.swp) 2 := by decide
    rcases List.mem_cons.1 h with rfl | h
    · exact ⟨.more (.one f12) f21, .more (.one b12) b21⟩
    · obtain rfl := List.mem_singleton.1 h
      exact ⟨.one f12, .one b12⟩
  · have hm : ∀ {z : Int}, x ∈ adjF [⟨1, 2⟩, ⟨2, 1⟩] z → x ∈ [1, 2] := fun {z} hz => by
      have := adjF_mem.1 hz
      simp at this
      simp
      omega
    cases h with
    | one h1 => exact hm h1
    | more _ h1 => exact hm h1
--%call poste/postelaw12.alive := l12_alive
set_option maxHeartbeats 1600000 in
theorem l12_alive : Fn Try.prog 20 ([] : List Value).toArray [] (fun r post => r = .bool true ∧ post = []) := by
  refine Fn.enter (N := 20) Try.func20 rfl Try.ntmps20 (by kernel_rfl) rfl (fun ρ L => ?_)
  refine K.seq ?_
  refine K.region ?_
  refine KO.q rfl (q_assign rfl) ?_
  refine KO.done ?_
  refine K.seq ?_
  refine K.region ?_
  refine KO.q rfl (q_as (q_buildA ar_p2 zo_39 rfl (by repeat (first | exact Fill.nil | (apply Fill.cons; rfl; rfl; rfl) | exact SetN.nil | apply SetN.cons | exact SetAt.here | apply SetAt.there))) (show _ = P2.cells ⟨1, 2⟩ from rfl)) ?_
  refine KO.q rfl (q_as (q_buildA ar_p2 zo_39 rfl (by repeat (first | exact Fill.nil | (apply Fill.cons; rfl; rfl; rfl) | exact SetN.nil | apply SetN.cons | exact SetAt.here | apply SetAt.there))) (show _ = P2.cells ⟨2, 1⟩ from rfl)) ?_
  refine KO.loud rfl (l_slice sz_32_2 rfl (by repeat (first | exact Fill.nil | (apply Fill.cons; rfl; rfl; rfl) | exact SetN.nil | apply SetN.cons | exact SetAt.here | apply SetAt.there))) ?_
  rintro _ _ ⟨b6, rfl, rfl⟩
  refine KO.st (fun w h => pv_flat (enc := P2.cells) (hl := p2_sz) (h1 := p2_one) [⟨1, 2⟩, ⟨2, 1⟩] rfl h) ?_
  refine KO.loud rfl (OpL.callD rfl (h := wt_Victim (RowF Kd.p2 (some ⟨b6, 0, none⟩) [⟨1, 2⟩, ⟨2, 1⟩]) (some ⟨b6, 0, none⟩) 2 [⟨1, 2⟩, ⟨2, 1⟩] 1 isF (by decide))) ?_
  rintro _ _ ⟨_, ⟨R, rfl, hR, rfl⟩, rfl⟩
  obtain rfl := hR.uniq ring_12
  refine KO.q rfl (q_move rfl) ?_
  refine KO.q rfl (q_extract rfl rfl) ?_
  refine KO.q rfl (q_extract rfl rfl) ?_
  refine KO.q rfl (q_assign rfl) ?_
  refine KO.q rfl (q_assign rfl) ?_
  refine KO.done ?_
  refine K.seq ?_
  refine K.st (fun w h => rowO_nil (k := Kd.p2) 39 h) ?_
  refine K.region ?_
  refine KO.loud rfl (OpL.callD rfl (h := wt_Ring (RowO Kd.p2 39 none 0 []) none 0 [] 1 isO (by decide))) ?_
  rintro _ _ ⟨_, ⟨R0, p0, c0, rfl, hR0, rfl⟩, rfl⟩
  obtain rfl := ring_nil hR0
  refine KO.q rfl (q_len Try.underlying36 rfl) ?_
  refine KO.q rfl (q_eqT rfl rfl (rfl)) ?_
  refine KO.q rfl (q_move rfl) ?_
  refine KO.q rfl (q_move rfl) ?_
  refine KO.q rfl (q_eqT rfl rfl (rfl)) ?_
  refine KO.q rfl (q_pickT rfl rfl) ?_
  refine KO.q rfl (q_move rfl) ?_
  refine KO.q rfl (q_move rfl) ?_
  refine KO.q rfl (q_pickT rfl rfl) ?_
  refine KO.q rfl (q_assign rfl) ?_
  refine KO.done ?_
  refine K.ret (fn := Try.f20) Try.func20 (fun a w hk hs => res1 Try.results20 hk rfl) (fun w hs => ?_)
  exact ⟨_, [], rfl, ⟨rfl, rfl⟩, hs.fitD⟩
set_option maxHeartbeats 3200000 in
theorem law_WaitsTell (q : Option Addr) (cap : Nat) (l : List P2) (hc : l.length ≤ cap) (who : Int) : Fn Try.prog 4 [.slice q l.length cap, .int .i64 who].toArray [RowF Kd.p2 q l] (fun r post => r = .bool true ∧ post = []) := by
  refine Fn.enter (N := 51) Try.func4 rfl Try.ntmps4 (by kernel_rfl) rfl (fun ρ L => ?_)
  refine K.seq ?_
  refine K.region ?_
  refine KO.q rfl (q_assign rfl) ?_
  refine KO.done ?_
  refine K.seq ?_
  refine K.region ?_
  refine KO.loud rfl (OpL.callD rfl (h := l12_alive)) ?_
  rintro _ _ ⟨_, ⟨rfl, rfl⟩, rfl⟩
  refine KO.q rfl (q_assign rfl) ?_
  refine KO.done ?_
  refine K.seq <| K.seq ?_
  refine K.region ?_
  refine KO.q rfl (q_move rfl) ?_
  refine KO.q rfl (q_not rfl) ?_
  refine KO.q rfl (q_move rfl) ?_
  refine KO.q rfl (q_move rfl) ?_
  refine KO.q rfl (q_len Try.underlying32 rfl) ?_
  refine KO.q rfl (q_gt rfl rfl) ?_
  refine KO.q rfl (q_pickF rfl rfl) ?_
  refine KO.done ?_
  refine K.dcond (s := 18) rfl (fun g18 => ?_) (fun g18 => ?_)
  · refine K.seq ?_
    refine K.region ?_
    refine KO.q rfl (q_move rfl) ?_
    refine KO.q rfl (q_assign rfl) ?_
    refine KO.done ?_
    refine K.ret (fn := Try.f4) Try.func4 (fun a w hk hs => res1 Try.results4 hk rfl) (fun w hs => ?_)
    exact ⟨_, [], rfl, ⟨rfl, rfl⟩, hs.fitD⟩
  · refine K.skip <| K.seq ?_
    refine K.st (fun w h => rowO_nil (k := Kd.p2) 39 h) ?_
    refine K.region ?_
    refine KO.q rfl (q_move rfl) ?_
    refine KO.loud rfl (l_append Kd.p2 (xs := []) (ys := l) se_32 Try.underlying32 ⟨_, ze_39, rfl⟩ (by decide) rfl rfl (by repeat (first | exact Pick.here | apply Pick.there)) isF (by repeat (first | exact List.Mem.head _ | apply List.Mem.tail)) rfl rfl (by show (2 * (0 + l.length) + 768) * 16 ≤ _; omega)) ?_
    rintro _ _ ⟨p6, c6, rfl, rfl⟩
    rw [List.nil_append]
    refine KO.q rfl (q_assign rfl) ?_
    refine KO.done ?_
    refine K.seq ?_
    refine K.region ?_
    refine KO.q rfl (q_move rfl) ?_
    refine KO.q rfl (q_move rfl) ?_
    refine KO.loud rfl (OpL.callD rfl (h := wt_Victim (RowO Kd.p2 39 p6 c6 l) p6 c6 l who isO (by omega))) ?_
    rintro _ _ ⟨_, ⟨R, rfl, hR, rfl⟩, rfl⟩
    refine KO.q rfl (q_move rfl) ?_
    refine KO.q rfl (q_extract rfl rfl) ?_
    refine KO.q rfl (q_extract rfl rfl) ?_
    refine KO.q rfl (q_assign rfl) ?_
    refine KO.q rfl (q_assign rfl) ?_
    refine KO.done ?_
    refine K.seq ?_
    refine K.region ?_
    refine KO.q rfl (q_move rfl) ?_
    refine KO.q rfl (q_move rfl) ?_
    refine KO.loud rfl (OpL.callD rfl (h := rf_Victim (RowF Kd.p2 q l) q cap l who isF (by omega))) ?_
    rintro _ _ ⟨_, ⟨R2, rfl, hR2, rfl⟩, rfl⟩
    obtain rfl := hR.uniq hR2
    refine KO.q rfl (q_move rfl) ?_
    refine KO.q rfl (q_extract rfl rfl) ?_
    refine KO.q rfl (q_extract rfl rfl) ?_
    refine KO.q rfl (q_assign rfl) ?_
    refine KO.q rfl (q_assign rfl) ?_
    refine KO.done ?_
    refine K.seq ?_
    refine K.region ?_
    refine KO.q rfl (q_move rfl) ?_
    refine KO.q rfl (q_move rfl) ?_
    refine KO.loud rfl (OpL.callD rfl (h := wt_Ring (RowO Kd.p2 39 p6 c6 l) p6 c6 l who isO (by omega))) ?_
    rintro _ _ ⟨_, ⟨R3, p3, d3, rfl, hR3, rfl⟩, rfl⟩
    obtain rfl := hR.uniq hR3
    refine KO.q rfl (q_move rfl) ?_
    refine KO.q rfl (q_move rfl) ?_
    refine KO.loud rfl (OpL.callD rfl (h := rf_Ring (RowF Kd.p2 q l) q cap l who isF (by omega))) ?_
    rintro _ _ ⟨_, ⟨R4, p4, d4, rfl, hR4, rfl⟩, rfl⟩
    obtain rfl := hR.uniq hR4; have hRl := hR.len
    refine KO.loud rfl (OpL.callD rfl (h := rf_SameInts (RowO (Kd.int .i64) 3 p3 d3 _) (RowO (Kd.int .i64) 3 p4 d4 _) p3 p4 d3 d4 R R isO isO (by omega) (by omega))) ?_
    rintro _ _ ⟨_, ⟨rfl, rfl⟩, rfl⟩
    rw [decide_eq_true rfl]
    refine KO.q rfl (q_move rfl) ?_
    refine KO.q rfl (q_move rfl) ?_
    refine KO.q rfl (q_move rfl) ?_
    refine KO.q rfl (q_eqT rfl rfl (rfl)) ?_
    refine KO.q rfl (q_pickT rfl rfl) ?_
    refine KO.q rfl (q_move rfl) ?_
    refine KO.q rfl (q_move rfl) ?_
    refine KO.q rfl (q_move rfl) ?_
    refine KO.q rfl (q_beqT Try.underlying4 rfl rfl (rfl)) ?_
    refine KO.q rfl (q_pickT rfl rfl) ?_
    refine KO.q rfl (q_assign rfl) ?_
    refine KO.done ?_
    refine K.ret (fn := Try.f4) Try.func4 (fun a w hk hs => res1 Try.results4 hk rfl) (fun w hs => ?_)
    exact ⟨_, [], rfl, ⟨rfl, rfl⟩, hs.fitD⟩
def P2.fits (x : P2) : Prop := (-9223372036854775808 ≤ x.a ∧ x.a ≤ 9223372036854775807) ∧ (-9223372036854775808 ≤ x.b ∧ x.b ≤ 9223372036854775807)
theorem opens_p2 {H : Type} {enc : TypeId × Value → H} {W : World} : Opens enc Try.prog W Kd.p2 39 P2.fits := fun fuel cs y h => by
  obtain ⟨ys, m, _, _, hcl, hl, hf⟩ := DataW.trod_array Try.underlying39 h
  have cint : Try.prog.cellsOf 3 = 1 := by kernel_rfl
  have hcl : cs.length = 2 := hcl.trans (by kernel_rfl)
  obtain ⟨v0, v1, rfl⟩ : ∃ v0 v1, cs = [v0, v1] := by
    match cs, hcl with
    | [v0, v1], _ => exact ⟨v0, v1, rfl⟩
  have h0 := hf 0 (by decide)
  have h1 := hf 1 (by decide)
  rw [cint, List.getElem?_eq_getElem (by omega)] at h0 h1
  have h0 : DataW.trod enc Try.prog W 0 (fun _ => true) true m 3 [v0] = some _ := h0
  have h1 : DataW.trod enc Try.prog W 0 (fun _ => true) true m 3 [v1] = some _ := h1
  obtain ⟨x0, e0, b0⟩ := opens_int Try.underlying3 _ _ _ h0
  obtain ⟨x1, e1, b1⟩ := opens_int Try.underlying3 _ _ _ h1
  have u0 : v0 = Value.int .i64 x0 := (List.cons.inj (show [v0] = [Value.int .i64 x0] from e0)).1
  have u1 : v1 = Value.int .i64 x1 := (List.cons.inj (show [v1] = [Value.int .i64 x1] from e1)).1
  refine ⟨⟨x0, x1⟩, ?_, b0, b1⟩
  show [v0, v1] = P2.cells _
  simp only [P2.cells]
  subst u0 u1
  rfl
end Go.Proofs.Ytfpkeanimkgpaaa.L
