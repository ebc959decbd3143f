/- Walks: the laws of images. -/
import Derived.Test.YtlellgnklohclaaD5
namespace Go.Proofs.Ytlellgnklohclaa.L
open Go Go.Proofs
attribute [local irreducible] pv fv pt fz RowF RowO rowP old pure_ elA Rd.int Rd.text Rd.flag Rd.msg Rd.rint Rd.rtext Rd.rflag Rd.rmsg
set_option maxRecDepth 100000
set_option linter.unusedSimpArgs false
set_option linter.unusedVariables false
attribute [local irreducible] Rd.eff Rd.reff lsM objM imgRead

theorem imgRead_nil : imgRead [] = none := by
  have h1 : Rd.int ⟨[], false⟩ = (0, ⟨[], true⟩) := by unfold Rd.int; rfl
  have h2 : Rd.int ⟨[], true⟩ = (0, ⟨[], true⟩) := Rd.int_f rfl
  unfold imgRead
  rw [sttM_eq]
  dsimp only
  rw [h1]
  dsimp only
  rw [lsM_eq]
  dsimp only
  rw [h2]
  rfl
def stt4 : Stt := ⟨4, []⟩
theorem stt4_right : stt4.right = true := by rfl
theorem img4 : imgBytes stt4 = stt4.bytes := if_pos stt4_right
theorem imgRead_img {s : Sz} (hok : s.ok) (h : s.st.right = true) (r : List UInt8) : imgRead (s.st.bytes ++ r) = if r = [] then some s.st else none := by
  obtain ⟨a, b, c, d⟩ := hok
  refine imgRead_bytes h a ?_ ?_ r
  · show ((s.l.map (·.x)).length : Int) ≤ _
    rw [List.length_map]; omega
  · intro o ho
    obtain ⟨z, hz, rfl⟩ := List.mem_map.1 ho
    exact (d z hz).1
theorem sz4_ok : Sz.ok ⟨4, none, 0, []⟩ := ⟨⟨by decide, by decide⟩, Nat.zero_le _, Nat.le_refl _, fun o ho => by cases ho⟩
theorem imgRead4 : imgRead (imgBytes stt4) = some stt4 := by
  rw [img4]
  have := imgRead_img (s := ⟨4, none, 0, []⟩) sz4_ok stt4_right []
  rw [List.append_nil, if_pos rfl] at this
  exact this
theorem imgBytes_len {s : Sz} (hcnt : s.cnt s.l.length ≤ 200) : (imgBytes s.st).length ≤ 30000000 := by
  have := preB_len s s.l.length
  rw [preB_all] at this
  unfold imgBytes
  split
  · omega
  · exact Nat.zero_le _
theorem im_Read_none (q : Option Addr) (cap : Nat) (bs : List UInt8) (hb : bs.length ≤ 10000000000) (h : imgRead bs = none) : Fn Try.prog 58 [.slice q bs.length cap].toArray [RowF Kd.u8 q bs]
    (fun r post => ∃ sz : Sz, r = .tuple #[.agg sz.cells.toArray, .int .i64 11] ∧ post = StL sz ∧ sz.ok ∧ sz.few) :=
  (im_Read q cap bs hb).mono fun r post ⟨sz, h1, h2, h3, h4, _⟩ => ⟨sz, by rw [h1, h]; rfl, h2, h3, h4⟩
theorem im_Read_some (q : Option Addr) (cap : Nat) (bs : List UInt8) (hb : bs.length ≤ 10000000000) {x : Stt} (h : imgRead bs = some x) : Fn Try.prog 58 [.slice q bs.length cap].toArray [RowF Kd.u8 q bs]
    (fun r post => ∃ sz : Sz, r = .tuple #[.agg sz.cells.toArray, .int .i64 0] ∧ post = StL sz ∧ sz.ok ∧ sz.few ∧ sz.st = x) :=
  (im_Read q cap bs hb).mono fun r post ⟨sz, h1, h2, h3, h4, h5⟩ => ⟨sz, by rw [h1, h]; rfl, h2, h3, h4, by rw [h5, h]; rfl⟩
--%call poste/postelaw20.num := num20 _
theorem num20 (n : Int) : Fn Try.prog 59 [.int .i64 n].toArray [] (fun r post => r = .int .i64 n ∧ post = []) := by
  refine Fn.enter (N := 4) Try.func59 rfl Try.ntmps59 (by kernel_rfl) rfl (fun ρ L => ?_)
  refine K.seq ?_
  refine K.region ?_
  refine KO.q rfl (q_assign rfl) ?_
  refine KO.done ?_
  refine K.seq ?_
  refine K.region ?_
  refine KO.q rfl (q_move rfl) ?_
  refine KO.q rfl (q_assign rfl) ?_
  refine KO.done ?_
  refine K.ret (fn := Try.f59) Try.func59 (fun a w hk hs => res1 Try.results59 hk rfl) (fun w hs => ?_)
  exact ⟨_, [], rfl, ⟨rfl, rfl⟩, hs.fitD⟩
--%call poste/postelaw20.alive := alive20
set_option maxHeartbeats 800000 in
theorem alive20 : Fn Try.prog 53 [].toArray [] (fun r post => r = .bool true ∧ post = []) := by
  have h4 : (imgBytes stt4).length ≤ 10000000000 := Nat.le_trans (imgBytes_len (s := ⟨4, none, 0, []⟩) (by decide)) (by decide)
  refine Fn.enter (N := 34) Try.func53 rfl Try.ntmps53 (by kernel_rfl) rfl (fun ρ L => ?_)
  refine K.seq ?_
  refine K.region ?_
  refine KO.q rfl (q_assign rfl) ?_
  refine KO.done ?_
  refine K.seq ?_
  refine K.st (fun w h => rowF_nil (k := Kd.u8) none h) ?_
  refine K.st (fun w h => rowF_nil (k := Kd.oz) none h) ?_
  refine K.st (fun w h => nestF_nil h) ?_
  refine K.region ?_
  refine KO.loud rfl (OpL.callD rfl (h := im_Read_none none 0 [] (by simp) imgRead_nil)) ?_
  rintro _ _ ⟨_, ⟨sz1, rfl, rfl, hok1, hfew1⟩, rfl⟩
  refine KO.q rfl (q_move rfl) ?_
  refine KO.q rfl (q_extract rfl rfl) ?_
  refine KO.q rfl (q_extract rfl rfl) ?_
  refine KO.loud rfl (l_alloc zo_76) ?_
  rintro _ _ ⟨b1, rfl, rfl⟩
  refine KO.loudN rfl (l_storeAll ck_76 rfl rfl ⟨rfl, rfl⟩ (sz_one _) (by repeat (first | exact Pick.here | apply Pick.there))) ?_
  rintro _ _ ⟨rfl, rfl⟩
  refine KO.q rfl (q_assign rfl) ?_
  refine KO.done ?_
  refine K.seq ?_
  refine K.region ?_
  refine KO.q rfl (q_as_sz (next_ := 4) (q_ := none) (c_ := 0) (l_ := []) (q_build st_76 rfl (by repeat (first | exact Fill.nil | (apply Fill.cons; rfl; rfl; rfl) | exact SetN.nil | apply SetN.cons | exact SetAt.here | apply SetAt.there))) rfl) ?_
  refine KO.loud rfl (OpL.callD rfl (h := im_Bytes ⟨4, none, 0, []⟩ sz4_ok (by decide))) ?_
  rintro _ _ ⟨_, ⟨q2, c2, rfl, rfl, hc2⟩, rfl⟩
  refine KO.loud rfl (OpL.callD rfl (h := im_Read_some _ _ (imgBytes stt4) h4 imgRead4)) ?_
  rintro _ _ ⟨_, ⟨sz2, rfl, rfl, hok2, hfew2, hst2⟩, rfl⟩
  have hn2 : sz2.next = 4 := congrArg Stt.next hst2
  have hl2 : ((sz2.l.length : Nat) : Int) = 0 := by
    have := congrArg (fun s => s.objs.length) hst2
    simp only [Sz.st, List.length_map] at this
    rw [this]; rfl
  refine KO.q rfl (q_move rfl) ?_
  refine KO.q rfl (q_extract rfl rfl) ?_
  refine KO.q rfl (q_extract rfl rfl) ?_
  refine KO.loud rfl (l_alloc zo_76) ?_
  rintro _ _ ⟨b3, rfl, rfl⟩
  refine KO.loudN rfl (l_storeAll ck_76 rfl rfl ⟨rfl, rfl⟩ (sz_one _) (by repeat (first | exact Pick.here | apply Pick.there))) ?_
  rintro _ _ ⟨rfl, rfl⟩
  refine KO.q rfl (q_assign rfl) ?_
  refine KO.done ?_
  refine K.seq ?_
  refine K.region ?_
  refine KO.q rfl (q_move rfl) ?_
  refine KO.loud rfl (OpL.callD rfl (h := num20 _)) ?_
  rintro _ _ ⟨_, ⟨rfl, rfl⟩, rfl⟩
  refine KO.q rfl (q_eqT rfl rfl (rfl)) ?_
  refine KO.q rfl (q_move rfl) ?_
  refine KO.q rfl (q_move rfl) ?_
  refine KO.loud rfl (OpL.callD rfl (h := num20 _)) ?_
  rintro _ _ ⟨_, ⟨rfl, rfl⟩, rfl⟩
  refine KO.q rfl (q_eqT rfl rfl (rfl)) ?_
  refine KO.q rfl (q_pickT rfl rfl) ?_
  refine KO.q rfl (q_move rfl) ?_
  refine KO.q rfl (q_field fo_76_0 rfl) ?_
  refine KO.q rfl (q_load1D ck_3 rfl) ?_
  refine KO.q rfl (q_eqT rfl rfl (hn2)) ?_
  refine KO.q rfl (q_pickT rfl rfl) ?_
  refine KO.q rfl (q_move rfl) ?_
  refine KO.q rfl (q_field fo_76_1 rfl) ?_
  refine KO.q rfl (q_load1D ck_74 rfl) ?_
  refine KO.q rfl (q_len Try.underlying74 rfl) ?_
  refine KO.q rfl (q_eqT rfl rfl (hl2)) ?_
  refine KO.q rfl (q_pickT rfl rfl) ?_
  refine KO.q rfl (q_assign rfl) ?_
  refine KO.done ?_
  refine K.ret (fn := Try.f53) Try.func53 (fun a w hk hs => res1 Try.results53 hk rfl) (fun w hs => ?_)
  exact ⟨_, [], rfl, ⟨rfl, rfl⟩, hs.fitD⟩
end Go.Proofs.Ytlellgnklohclaa.L
