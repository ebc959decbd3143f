/- The law StateErrors, walked. -/
import Derived.Test.YthnmoiilaaoooaaE9
import Derived.Test.YthnmoiilaaoooaaLQ
namespace Go.Proofs.Ythnmoiilaaoooaa.L
open Go Go.Proofs
attribute [local irreducible] pv fv pt fz RowF RowO rowP old pure_ elA
set_option maxRecDepth 100000
set_option linter.unusedSimpArgs false
set_option linter.unusedVariables false

def eE (k : Int) (o key : ByteArray) (n : Int) (m : Msg) : Eff := ⟨k, o, key, ⟨#[]⟩, n, 0, false, m⟩
def mz : Msg := ⟨0, 0, 0, false, ⟨#[]⟩, ⟨#[]⟩⟩
def mI (id : Int) (c : Bool) : Msg := ⟨id, 0, 0, c, ⟨#[]⟩, ⟨#[]⟩⟩
def bq : ByteArray := ⟨#[113]⟩
def bt : ByteArray := ⟨#[116]⟩
def be : ByteArray := ⟨#[]⟩
def ba : ByteArray := ⟨#[97]⟩
def bb : ByteArray := ⟨#[98]⟩
def seffs : List Eff := [eE 1 bq be 1 mz, eE 2 bq ba 0 mz, eE 2 ⟨#[120]⟩ ba 0 mz, eE 3 bt bb 0 mz, eE 4 bt be 0 (mI 1 false), eE 4 bq be 0 (mI 9 false), eE 4 bq be 0 (mI 5 false), eE 4 bq be 0 (mI 1 true), eE 5 bq be 5 mz, eE 6 bq be 4 mz, eE 6 bq be 5 mz, eE 7 bq be 3 mz, eE 8 be be 8 mz, eE 0 be be 0 mz, eE 5 bt be 3 mz, eE 4 bq be 0 (mI 8 false), eE 8 be be 9 mz, eE 5 bq be 4 mz]
def swant : List Int := [4, 5, 3, 7, 5, 1, 4, 1, 7, 2, 7, 7, 1, 1, 5, 0, 0, 0]
def putE : Eff := ⟨2, bt, ⟨#[122]⟩, ⟨#[121]⟩, 0, 0, false, mz⟩
def soq : Ob := ⟨bq, 2, 2, [], [mI 3 false, mI 4 true], [⟨5, 0, 2, false, be, be⟩]⟩
def sot : Ob := ⟨bt, 1, 0, [⟨ba, bb⟩], [], []⟩
def seOk (i : Nat) : Bool :=
  let r := applyS ⟨9, [soq, sot]⟩ [putE, seffs.getD i putE]
  decide (r.2 = swant.getD i 0) && (if r.2 = 0 then decide (r.1.objs.length = 2) else decide (r.1.objs.length = 0) && decide (r.1.next = 0))
theorem se_all : (List.range 18).all seOk = true := by decide +kernel
theorem se_at {i : Nat} (h : i < 18) : seOk i = true := by
  have := List.all_eq_true.1 se_all i (List.mem_range.2 h)
  exact this
theorem se_small : Stt.small ⟨9, [soq, sot]⟩ 10 := by
  refine ⟨⟨by decide, by decide⟩, by decide, fun o ho => ?_⟩
  simp only [List.mem_cons, List.not_mem_nil, or_false] at ho
  rcases ho with rfl | rfl
  · refine ⟨⟨by decide, by decide, by decide, (fun r hr => by cases hr), fun m hm => ?_, fun m hm => ?_, by decide, by decide, by decide⟩, by decide, by decide, by decide⟩
    · simp only [soq, List.mem_cons, List.not_mem_nil, or_false] at hm
      rcases hm with rfl | rfl <;> exact ⟨by decide, by decide, by decide, by decide, by decide⟩
    · simp only [soq, List.mem_cons, List.not_mem_nil, or_false] at hm
      subst hm
      exact ⟨by decide, by decide, by decide, by decide, by decide⟩
  · refine ⟨⟨by decide, by decide, by decide, fun r hr => ?_, (fun m hm => by cases hm), (fun m hm => by cases hm), by decide, by decide, by decide⟩, by decide, by decide, by decide⟩
    simp only [sot, List.mem_cons, List.not_mem_nil, or_false] at hr
    subst hr
    exact ⟨by decide, by decide⟩
theorem objs_len (s : Sz) : s.st.objs.length = s.l.length := List.length_map _
set_option maxHeartbeats 3200000 in
theorem law_StateErrors (which : Int) : Fn Try.prog 3 [.int .i64 which].toArray [] (fun r post => r = .bool true ∧ post = []) := by
  refine Fn.enter (N := 102) Try.func3 rfl Try.ntmps3 (by kernel_rfl) rfl (fun ρ L => ?_)
  refine K.seq ?_
  refine K.region ?_
  refine KO.q rfl (q_assign rfl) ?_
  refine KO.done ?_
  refine K.seq ?_
  refine K.region ?_
  refine KO.loud rfl (OpL.callD rfl (h := l19_alive)) ?_
  rintro _ _ ⟨_, ⟨rfl, rfl⟩, rfl⟩
  refine KO.q rfl (q_assign rfl) ?_
  refine KO.done ?_
  rename_i L2
  refine K.seq ?_
  refine K.region ?_
  refine KO.q rfl (q_as_msg (q_build st_24 rfl (by repeat (first | exact Fill.nil | (apply Fill.cons; rfl; rfl; rfl) | exact SetN.nil | apply SetN.cons | exact SetAt.here | apply SetAt.there))) (by rfl)) ?_
  refine KO.q rfl (q_as_msg (q_build st_24 rfl (by repeat (first | exact Fill.nil | (apply Fill.cons; rfl; rfl; rfl) | exact SetN.nil | apply SetN.cons | exact SetAt.here | apply SetAt.there))) (by rfl)) ?_
  refine KO.loud rfl (l_sliceR [mI 3 false, mI 4 true] msg_sz (by decide) sz_25_2 rfl rfl) ?_
  rintro _ _ ⟨b12, rfl, rfl⟩
  refine KO.st (fun w h => pv_flat (n := 6) (enc := Msg.cells) (hl := msg_sz) (h1 := msg_one) [mI 3 false, mI 4 true] rfl h) ?_
  refine KO.q rfl (q_as_msg (q_build st_24 rfl (by repeat (first | exact Fill.nil | (apply Fill.cons; rfl; rfl; rfl) | exact SetN.nil | apply SetN.cons | exact SetAt.here | apply SetAt.there))) (by rfl)) ?_
  refine KO.loud rfl (l_slice1 sz_25_1 rfl rfl ⟨rfl, rfl, rfl⟩) ?_
  rintro _ _ ⟨b14, rfl, rfl⟩
  refine KO.st (fun w h => pv_flat (n := 6) (enc := Msg.cells) (hl := msg_sz) (h1 := msg_one) [⟨5, 0, 2, false, be, be⟩] rfl h) ?_
  refine KO.q rfl (q_as_oz (rows_ := []) (msgs_ := [mI 3 false, mI 4 true]) (dead_ := [⟨5, 0, 2, false, be, be⟩]) (q_build st_28 rfl (by repeat (first | exact Fill.nil | (apply Fill.cons; rfl; rfl; rfl) | exact SetN.nil | apply SetN.cons | exact SetAt.here | apply SetAt.there))) rfl) ?_
  refine KO.q rfl (q_as_rw (q_build st_30 rfl (by repeat (first | exact Fill.nil | (apply Fill.cons; rfl; rfl; rfl) | exact SetN.nil | apply SetN.cons | exact SetAt.here | apply SetAt.there))) (by rfl)) ?_
  refine KO.loud rfl (l_slice1 sz_26_1 rfl rfl ⟨rfl, rfl, rfl⟩) ?_
  rintro _ _ ⟨b17, rfl, rfl⟩
  refine KO.st (fun w h => pv_flat (n := 2) (enc := Rw.cells) (hl := rw_sz) (h1 := rw_one) [⟨ba, bb⟩] rfl h) ?_
  refine KO.q rfl (q_as_oz (rows_ := [⟨ba, bb⟩]) (msgs_ := []) (dead_ := []) (q_build st_28 rfl (by repeat (first | exact Fill.nil | (apply Fill.cons; rfl; rfl; rfl) | exact SetN.nil | apply SetN.cons | exact SetAt.here | apply SetAt.there))) rfl) ?_
  refine KO.loud rfl (l_sliceR (enc := Oz.cells) [⟨soq, ⟨none, 0, some ⟨b12, 0, none⟩, 2, some ⟨b14, 0, none⟩, 1⟩⟩, ⟨sot, ⟨some ⟨b17, 0, none⟩, 1, none, 0, none, 0⟩⟩] oz_sz (by decide) sz_31_2 rfl rfl) ?_
  rintro _ _ ⟨b19, rfl, rfl⟩
  refine KO.st (fun w h => pv_flat (n := 6) (enc := Oz.cells) (hl := oz_sz) (h1 := oz_one) [⟨soq, ⟨none, 0, some ⟨b12, 0, none⟩, 2, some ⟨b14, 0, none⟩, 1⟩⟩, ⟨sot, ⟨some ⟨b17, 0, none⟩, 1, none, 0, none, 0⟩⟩] rfl h) ?_
  refine KO.q rfl (q_as_sz (l_ := [⟨soq, ⟨none, 0, some ⟨b12, 0, none⟩, 2, some ⟨b14, 0, none⟩, 1⟩⟩, ⟨sot, ⟨some ⟨b17, 0, none⟩, 1, none, 0, none, 0⟩⟩]) (q_build st_33 rfl (by repeat (first | exact Fill.nil | (apply Fill.cons; rfl; rfl; rfl) | exact SetN.nil | apply SetN.cons | exact SetAt.here | apply SetAt.there))) rfl) ?_
  refine KO.loud rfl (l_alloc zo_33) ?_
  rintro _ _ ⟨b4, rfl, rfl⟩
  refine KO.loudN rfl (l_storeAll ck_33 rfl rfl ⟨rfl, rfl⟩ (sz_one _) (by repeat (first | exact Pick.here | apply Pick.there))) ?_
  rintro _ _ ⟨rfl, rfl⟩
  refine KO.done ?_
  refine K.seq ?_
  obtain ⟨oq, hoq⟩ : ∃ oq : Oz, oq = ⟨soq, ⟨none, 0, some ⟨b12, 0, none⟩, 2, some ⟨b14, 0, none⟩, 1⟩⟩ := ⟨_, rfl⟩
  obtain ⟨ot, hot⟩ : ∃ ot : Oz, ot = ⟨sot, ⟨some ⟨b17, 0, none⟩, 1, none, 0, none, 0⟩⟩ := ⟨_, rfl⟩
  rw [← hoq, ← hot]
  refine K.st (L' := NestF [oq, ot] :: [pv b4 33 (Sz.cells ⟨9, some ⟨b19, 0, none⟩, 2, [oq, ot]⟩), RowF Kd.oz (some ⟨b19, 0, none⟩) [oq, ot]] ++ L2) (fun w h => ?_) ?_
  · have h1 : St ρ ([RowF Kd.rw oq.z.q1 oq.x.rows, RowF Kd.msg oq.z.q2 oq.x.msgs, RowF Kd.msg oq.z.q3 oq.x.dead, RowF Kd.rw ot.z.q1 ot.x.rows, RowF Kd.msg ot.z.q2 ot.x.msgs, RowF Kd.msg ot.z.q3 ot.x.dead, pv b4 33 (Sz.cells ⟨9, some ⟨b19, 0, none⟩, 2, [oq, ot]⟩), RowF Kd.oz (some ⟨b19, 0, none⟩) [oq, ot]] ++ L2) w := by
      subst hoq hot
      exact (rowF_nilA (k := Kd.rw) (rowF_nilA (k := Kd.msg) h)).fitD
    have h2 := nestF_put (l := []) (l' := [ot]) ot (fun p hp => .inr (List.mem_singleton.1 hp)) (by repeat (first | exact List.Mem.head _ | apply List.Mem.tail)) (by repeat (first | exact List.Mem.head _ | apply List.Mem.tail)) (by repeat (first | exact List.Mem.head _ | apply List.Mem.tail)) (by repeat (first | exact List.Mem.head _ | apply List.Mem.tail)) (nestF_nil h1)
    exact (nestF_put (l := [ot]) (l' := [oq, ot]) oq (fun p hp => (List.mem_cons.1 hp).symm) (by repeat (first | exact List.Mem.head _ | apply List.Mem.tail)) (by repeat (first | exact List.Mem.head _ | apply List.Mem.tail)) (by repeat (first | exact List.Mem.head _ | apply List.Mem.tail)) (by repeat (first | exact List.Mem.head _ | apply List.Mem.tail)) h2).fitD
  refine K.region ?_
  refine KO.q rfl (q_as_eff (q_build st_35 rfl (by repeat (first | exact Fill.nil | (apply Fill.cons; rfl; rfl; rfl) | exact SetN.nil | apply SetN.cons | exact SetAt.here | apply SetAt.there))) (by rfl)) ?_
  refine KO.q rfl (q_as_eff (q_build st_35 rfl (by repeat (first | exact Fill.nil | (apply Fill.cons; rfl; rfl; rfl) | exact SetN.nil | apply SetN.cons | exact SetAt.here | apply SetAt.there))) (by rfl)) ?_
  refine KO.q rfl (q_as_eff (q_build st_35 rfl (by repeat (first | exact Fill.nil | (apply Fill.cons; rfl; rfl; rfl) | exact SetN.nil | apply SetN.cons | exact SetAt.here | apply SetAt.there))) (by rfl)) ?_
  refine KO.q rfl (q_as_eff (q_build st_35 rfl (by repeat (first | exact Fill.nil | (apply Fill.cons; rfl; rfl; rfl) | exact SetN.nil | apply SetN.cons | exact SetAt.here | apply SetAt.there))) (by rfl)) ?_
  refine KO.q rfl (q_as_msg (q_build st_24 rfl (by repeat (first | exact Fill.nil | (apply Fill.cons; rfl; rfl; rfl) | exact SetN.nil | apply SetN.cons | exact SetAt.here | apply SetAt.there))) (by rfl)) ?_
  refine KO.q rfl (q_as_eff (q_build st_35 rfl (by repeat (first | exact Fill.nil | (apply Fill.cons; rfl; rfl; rfl) | exact SetN.nil | apply SetN.cons | exact SetAt.here | apply SetAt.there))) (by rfl)) ?_
  refine KO.q rfl (q_as_msg (q_build st_24 rfl (by repeat (first | exact Fill.nil | (apply Fill.cons; rfl; rfl; rfl) | exact SetN.nil | apply SetN.cons | exact SetAt.here | apply SetAt.there))) (by rfl)) ?_
  refine KO.q rfl (q_as_eff (q_build st_35 rfl (by repeat (first | exact Fill.nil | (apply Fill.cons; rfl; rfl; rfl) | exact SetN.nil | apply SetN.cons | exact SetAt.here | apply SetAt.there))) (by rfl)) ?_
  refine KO.q rfl (q_as_msg (q_build st_24 rfl (by repeat (first | exact Fill.nil | (apply Fill.cons; rfl; rfl; rfl) | exact SetN.nil | apply SetN.cons | exact SetAt.here | apply SetAt.there))) (by rfl)) ?_
  refine KO.q rfl (q_as_eff (q_build st_35 rfl (by repeat (first | exact Fill.nil | (apply Fill.cons; rfl; rfl; rfl) | exact SetN.nil | apply SetN.cons | exact SetAt.here | apply SetAt.there))) (by rfl)) ?_
  refine KO.q rfl (q_as_msg (q_build st_24 rfl (by repeat (first | exact Fill.nil | (apply Fill.cons; rfl; rfl; rfl) | exact SetN.nil | apply SetN.cons | exact SetAt.here | apply SetAt.there))) (by rfl)) ?_
  refine KO.q rfl (q_as_eff (q_build st_35 rfl (by repeat (first | exact Fill.nil | (apply Fill.cons; rfl; rfl; rfl) | exact SetN.nil | apply SetN.cons | exact SetAt.here | apply SetAt.there))) (by rfl)) ?_
  refine KO.q rfl (q_as_eff (q_build st_35 rfl (by repeat (first | exact Fill.nil | (apply Fill.cons; rfl; rfl; rfl) | exact SetN.nil | apply SetN.cons | exact SetAt.here | apply SetAt.there))) (by rfl)) ?_
  refine KO.q rfl (q_as_eff (q_build st_35 rfl (by repeat (first | exact Fill.nil | (apply Fill.cons; rfl; rfl; rfl) | exact SetN.nil | apply SetN.cons | exact SetAt.here | apply SetAt.there))) (by rfl)) ?_
  refine KO.q rfl (q_as_eff (q_build st_35 rfl (by repeat (first | exact Fill.nil | (apply Fill.cons; rfl; rfl; rfl) | exact SetN.nil | apply SetN.cons | exact SetAt.here | apply SetAt.there))) (by rfl)) ?_
  refine KO.q rfl (q_as_eff (q_build st_35 rfl (by repeat (first | exact Fill.nil | (apply Fill.cons; rfl; rfl; rfl) | exact SetN.nil | apply SetN.cons | exact SetAt.here | apply SetAt.there))) (by rfl)) ?_
  refine KO.q rfl (q_as_eff (q_build st_35 rfl (by repeat (first | exact Fill.nil | (apply Fill.cons; rfl; rfl; rfl) | exact SetN.nil | apply SetN.cons | exact SetAt.here | apply SetAt.there))) (by rfl)) ?_
  refine KO.q rfl (q_as_eff (q_build st_35 rfl (by repeat (first | exact Fill.nil | (apply Fill.cons; rfl; rfl; rfl) | exact SetN.nil | apply SetN.cons | exact SetAt.here | apply SetAt.there))) (by rfl)) ?_
  refine KO.q rfl (q_as_eff (q_build st_35 rfl (by repeat (first | exact Fill.nil | (apply Fill.cons; rfl; rfl; rfl) | exact SetN.nil | apply SetN.cons | exact SetAt.here | apply SetAt.there))) (by rfl)) ?_
  refine KO.q rfl (q_as_msg (q_build st_24 rfl (by repeat (first | exact Fill.nil | (apply Fill.cons; rfl; rfl; rfl) | exact SetN.nil | apply SetN.cons | exact SetAt.here | apply SetAt.there))) (by rfl)) ?_
  refine KO.q rfl (q_as_eff (q_build st_35 rfl (by repeat (first | exact Fill.nil | (apply Fill.cons; rfl; rfl; rfl) | exact SetN.nil | apply SetN.cons | exact SetAt.here | apply SetAt.there))) (by rfl)) ?_
  refine KO.q rfl (q_as_eff (q_build st_35 rfl (by repeat (first | exact Fill.nil | (apply Fill.cons; rfl; rfl; rfl) | exact SetN.nil | apply SetN.cons | exact SetAt.here | apply SetAt.there))) (by rfl)) ?_
  refine KO.q rfl (q_as_eff (q_build st_35 rfl (by repeat (first | exact Fill.nil | (apply Fill.cons; rfl; rfl; rfl) | exact SetN.nil | apply SetN.cons | exact SetAt.here | apply SetAt.there))) (by rfl)) ?_
  refine KO.loud rfl (l_sliceR (enc := Eff.cells) seffs eff_sz (by decide) sz_36_18 rfl rfl) ?_
  rintro _ _ ⟨b44, rfl, rfl⟩
  refine KO.st (fun w h => pv_effs seffs rfl h) ?_
  refine KO.q rfl (q_assign rfl) ?_
  refine KO.done ?_
  refine K.seq ?_
  refine K.region ?_
  refine KO.loud rfl (l_slice sz_37_18 rfl (by repeat (first | exact Fill.nil | (apply Fill.cons; rfl; rfl; rfl) | exact SetN.nil | apply SetN.cons | exact SetAt.here | apply SetAt.there))) ?_
  rintro _ _ ⟨b45, rfl, rfl⟩
  refine KO.st (fun w h => pv_ints swant rfl h) ?_
  refine KO.q rfl (q_assign rfl) ?_
  refine KO.done ?_
  refine K.seq <| K.seq ?_
  refine K.region ?_
  refine KO.q rfl (q_move rfl) ?_
  refine KO.q rfl (q_not rfl) ?_
  refine KO.q rfl (q_move rfl) ?_
  refine KO.q rfl (q_move rfl) ?_
  refine KO.q rfl (q_lt rfl rfl) ?_
  refine KO.q rfl (q_pickF rfl rfl) ?_
  refine KO.q rfl (q_move rfl) ?_
  refine KO.dsplit 52 rfl (fun g52 => ?_) (fun g52 => ?_)
  · refine KO.skip rfl ?_
    refine KO.skip rfl ?_
    refine KO.skip rfl ?_
    refine KO.skip rfl ?_
    refine KO.q rfl (q_pickT rfl rfl) ?_
    refine KO.done ?_
    refine K.yes rfl ?_
    refine K.seq ?_
    refine K.region ?_
    refine KO.q rfl (q_move rfl) ?_
    refine KO.q rfl (q_assign rfl) ?_
    refine KO.done ?_
    refine K.ret (fn := Try.f3) Try.func3 (fun a w hk hs => res1 Try.results3 hk rfl) (fun w hs => ?_)
    exact ⟨_, [], rfl, ⟨rfl, rfl⟩, hs.fitD⟩
  · refine KO.q rfl (q_move rfl) ?_
    refine KO.q rfl (q_move rfl) ?_
    refine KO.q rfl (q_len Try.underlying36 rfl) ?_
    refine KO.q rfl (q_ge rfl rfl) ?_
    refine KO.q rfl (q_pickF rfl rfl) ?_
    refine KO.done ?_
    refine K.dcond (s := 57) rfl (fun g57 => ?_) (fun g57 => ?_)
    · refine K.seq ?_
      refine K.region ?_
      refine KO.q rfl (q_move rfl) ?_
      refine KO.q rfl (q_assign rfl) ?_
      refine KO.done ?_
      refine K.ret (fn := Try.f3) Try.func3 (fun a w hk hs => res1 Try.results3 hk rfl) (fun w hs => ?_)
      exact ⟨_, [], rfl, ⟨rfl, rfl⟩, hs.fitD⟩
    · have hst : Sz.st ⟨9, some ⟨b19, 0, none⟩, 2, [oq, ot]⟩ = ⟨9, [soq, sot]⟩ := by subst hoq hot; rfl
      have hgood : Sz.good ⟨9, some ⟨b19, 0, none⟩, 2, [oq, ot]⟩ 10 := ⟨by rw [hst]; exact se_small, Nat.le_refl _, fun o ho => by
        simp only [List.mem_cons, List.not_mem_nil, or_false] at ho
        rcases ho with rfl | rfl
        · rw [hoq]; exact ⟨Nat.le_refl 0, Nat.le_refl 2, Nat.le_refl 1⟩
        · rw [hot]; exact ⟨Nat.le_refl 1, Nat.le_refl 0, Nat.le_refl 0⟩⟩
      obtain ⟨i, rfl⟩ : ∃ i : Nat, which = (i : Int) := ⟨which.toNat, by omega⟩
      have hi : i < 18 := by omega
      obtain ⟨x, hx⟩ : ∃ x, seffs[i]? = some x := ⟨_, List.getElem?_eq_getElem (show i < seffs.length from hi)⟩
      obtain ⟨wv, hw⟩ : ∃ wv, swant[i]? = some wv := ⟨_, List.getElem?_eq_getElem (show i < swant.length from hi)⟩
      have hok := se_at hi
      unfold seOk at hok
      rw [gd_at hx, gd_at hw] at hok
      obtain ⟨r, hrr⟩ : ∃ r, r = applyS ⟨9, [soq, sot]⟩ [putE, x] := ⟨_, rfl⟩
      rw [← hrr] at hok
      have hok2 : decide (r.2 = wv) = true ∧ (if r.2 = 0 then decide (r.1.objs.length = 2) else decide (r.1.objs.length = 0) && decide (r.1.next = 0)) = true := by
        have := hok
        dsimp only at this
        rwa [Bool.and_eq_true] at this
      have hwv : r.2 = wv := of_decide_eq_true hok2.1
      refine K.skip <| K.seq ?_
      refine K.drawS [pv b4 33 (Sz.cells ⟨9, some ⟨b19, 0, none⟩, 2, [oq, ot]⟩), RowF Kd.eff (some ⟨b44, 0, none⟩) seffs] (fun _ h => h.subD) mixed ?_
      refine D.q 0 rfl (by kernel_rfl) (by kernel_rfl) (q_loadN ck_33 rfl rfl (by first | (apply cells_pv; (repeat (first | exact List.Mem.head _ | apply List.Mem.tail))) | (apply cells_fv; (repeat (first | exact List.Mem.head _ | apply List.Mem.tail))))) (fun _ h => h.subD) ?_
      refine D.q 1 rfl (by kernel_rfl) (by kernel_rfl) (q_as_eff (q_build st_35 rfl (by repeat (first | exact Fill.nil | (apply Fill.cons; rfl; rfl; rfl) | exact SetN.nil | apply SetN.cons | exact SetAt.here | apply SetAt.there))) (by rfl)) (fun _ h => h.subD) ?_
      refine D.q 2 rfl (by kernel_rfl) (by kernel_rfl) (q_move rfl) (fun _ h => h.subD) ?_
      refine D.q 3 rfl (by kernel_rfl) (by kernel_rfl) (q_move rfl) (fun _ h => h.subD) ?_
      refine D.q 4 rfl (by kernel_rfl) (by kernel_rfl) (q_ix (xs := seffs) i se_36 rfl rfl rfl isF (by repeat (first | exact List.Mem.head _ | apply List.Mem.tail)) rfl hi) (fun _ h => h.subD) ?_
      refine D.q 5 rfl (by kernel_rfl) (by kernel_rfl) (q_ldEN (xs := seffs) (enc := Eff.cells) ck_35 rfl isF (by repeat (first | exact List.Mem.head _ | apply List.Mem.tail)) hx) (fun _ h => h.subD) ?_
      refine D.all (rs := [6, 11]) (by kernel_rfl) rfl (DAll.cons rfl (by kernel_rfl) (l_sliceR (enc := Eff.cells) [putE, x] eff_sz (by decide) sz_36_2 rfl rfl) (.inr (by rintro _ _ ⟨b66, rfl, rfl⟩ w h; exact h.subD)) rfl ?_ (DAll.cons rfl (by kernel_rfl) (l_alloc zo_33) (.inr (by rintro _ _ ⟨b7, rfl, rfl⟩ w h; exact h.subD)) rfl ?_ DAll.nil))
      · rintro _ _ ⟨b66, rfl, rfl⟩
        refine D.st (fun w h => pv_effs [putE, x] rfl h) ?_
        refine D.all (rs := [7, 11]) (by kernel_rfl) rfl (DAll.cons rfl (by kernel_rfl) (OpL.callD rfl (h := st_Apply (RowF Kd.eff (some ⟨b66, 0, none⟩) [putE, x]) ⟨9, some ⟨b19, 0, none⟩, 2, [oq, ot]⟩ 10 (some ⟨b66, 0, none⟩) 2 [putE, x] isF hgood (show 10 + 2 ≤ 100000000 by decide))) (.inr (by rintro _ _ ⟨_, ⟨s', rfl, hs1, rfl, hs2⟩, rfl⟩ w h; exact h.subD)) rfl ?_ (DAll.cons rfl (by kernel_rfl) (l_alloc zo_33) (.inr (by rintro _ _ ⟨b7, rfl, rfl⟩ w h; exact h.subD)) rfl ?_ DAll.nil))
        · rintro _ _ ⟨_, ⟨s', rfl, hs1, rfl, hs2⟩, rfl⟩
          rw [hst, ← hrr] at hs1
          rw [hst, ← hrr]
          refine D.q 8 rfl (by kernel_rfl) (by kernel_rfl) (q_move rfl) (fun _ h => h.subD) ?_
          refine D.q 9 rfl (by kernel_rfl) (by kernel_rfl) (q_extract rfl rfl) (fun _ h => h.subD) ?_
          refine D.q 10 rfl (by kernel_rfl) (by kernel_rfl) (q_extract rfl rfl) (fun _ h => h.subD) ?_
          refine D.all (rs := [11]) (by kernel_rfl) rfl (DAll.cons rfl (by kernel_rfl) (l_alloc zo_33) (.inr (by rintro _ _ ⟨b7, rfl, rfl⟩ w h; exact h.subD)) rfl ?_ DAll.nil)
          rintro _ _ ⟨b7, rfl, rfl⟩
          refine D.all (rs := [12]) (by kernel_rfl) rfl (DAll.consN rfl (by kernel_rfl) (l_storeAll ck_33 rfl rfl ⟨rfl, rfl⟩ (sz_one _) (by repeat (first | exact Pick.here | apply Pick.there))) (.inr (by rintro _ _ ⟨rfl, rfl⟩ w h; exact h.subD)) rfl ?_ DAll.nil)
          rintro _ _ ⟨rfl, rfl⟩
          refine D.q 13 rfl (by kernel_rfl) (by kernel_rfl) (q_assign rfl) (fun _ h => h.subD) ?_
          refine D.done (by kernel_rfl) ?_
          refine K.seq <| K.seq ?_
          have hlen : s'.l.length = r.1.objs.length := by rw [← objs_len, hs1]
          have hnx : s'.next = r.1.next := congrArg Stt.next hs1
          refine K.drawU (by repeat (first | apply SubL.pers | apply SubL.drop | exact SubL.none)) mixed ?_
          refine D.q 0 rfl (by kernel_rfl) (by kernel_rfl) (q_move rfl) (fun _ h => h.subD) ?_
          refine D.q 2 rfl (by kernel_rfl) (by kernel_rfl) (q_move rfl) (fun _ h => h.subD) ?_
          refine D.q 3 rfl (by kernel_rfl) (by kernel_rfl) (q_move rfl) (fun _ h => h.subD) ?_
          refine D.q 4 rfl (by kernel_rfl) (by kernel_rfl) (q_ix (xs := swant) i se_37 rfl rfl rfl isF (by repeat (first | exact List.Mem.head _ | apply List.Mem.tail)) rfl hi) (fun _ h => h.subD) ?_
          refine D.q 5 rfl (by kernel_rfl) (by kernel_rfl) (q_ldE (xs := swant) ck_3 rfl isF (by repeat (first | exact List.Mem.head _ | apply List.Mem.tail)) hw rfl) (fun _ h => h.subD) ?_
          refine D.all (rs := [1]) (by kernel_rfl) rfl (DAll.cons rfl (by kernel_rfl) (OpL.callD rfl (h := l19_num _)) (.inr (by rintro _ _ ⟨_, ⟨rfl, rfl⟩, rfl⟩ w h; exact h.subD)) rfl ?_ DAll.nil)
          rintro _ _ ⟨_, ⟨rfl, rfl⟩, rfl⟩
          refine D.q 6 rfl (by kernel_rfl) (by kernel_rfl) (q_neF rfl rfl (hwv)) (fun _ h => h.subD) ?_
          refine D.done (by kernel_rfl) ?_
          refine K.no rfl ?_
          refine K.skip <| K.seq ?_
          refine K.region ?_
          refine KO.q rfl (q_move rfl) ?_
          refine KO.loud rfl (OpL.callD rfl (h := l19_num _)) ?_
          rintro _ _ ⟨_, ⟨rfl, rfl⟩, rfl⟩
          refine KO.q rfl (q_eq rfl rfl) ?_
          refine KO.q rfl (q_move rfl) ?_
          refine KO.dsplit 80 rfl (fun g80 => ?_) (fun g80 => ?_)
          · have hl2 : s'.l.length = 2 := by
              have := hok2.2
              rw [if_pos g80] at this
              rw [hlen]; exact of_decide_eq_true this
            refine KO.q rfl (q_field fo_33_1 rfl) ?_
            refine KO.q rfl (q_load1D ck_31 rfl) ?_
            refine KO.q rfl (q_len Try.underlying31 rfl) ?_
            refine KO.q rfl (q_eqT rfl rfl (by rw [hl2]; rfl)) ?_
            refine KO.q rfl (q_pickT rfl rfl) ?_
            refine KO.q rfl (q_move rfl) ?_
            refine KO.skip rfl ?_
            refine KO.skip rfl ?_
            refine KO.skip rfl ?_
            refine KO.skip rfl ?_
            refine KO.gone rfl ?_
            refine KO.gone rfl ?_
            refine KO.gone rfl ?_
            refine KO.gone rfl ?_
            refine KO.skip rfl ?_
            refine KO.skip rfl ?_
            refine KO.gone rfl ?_
            refine KO.gone rfl ?_
            refine KO.gone rfl ?_
            refine KO.skip rfl ?_
            refine KO.q rfl (q_pickT rfl rfl) ?_
            refine KO.q rfl (q_assign rfl) ?_
            refine KO.done ?_
            refine K.ret (fn := Try.f3) Try.func3 (fun a w hk hs => res1 Try.results3 hk rfl) (fun w hs => ?_)
            exact ⟨_, [], rfl, ⟨rfl, rfl⟩, hs.fitD⟩
          · have hl0 : s'.l.length = 0 ∧ s'.next = 0 := by
              have := hok2.2
              rw [if_neg g80, Bool.and_eq_true] at this
              rw [hlen, hnx]; exact ⟨of_decide_eq_true this.1, of_decide_eq_true this.2⟩
            refine KO.skip rfl ?_
            refine KO.skip rfl ?_
            refine KO.skip rfl ?_
            refine KO.skip rfl ?_
            refine KO.q rfl (q_pickF rfl rfl) ?_
            refine KO.q rfl (q_move rfl) ?_
            refine KO.q rfl (q_move rfl) ?_
            refine KO.loud rfl (OpL.callD rfl (h := l19_num _)) ?_
            rintro _ _ ⟨_, ⟨rfl, rfl⟩, rfl⟩
            refine KO.q rfl (q_neT rfl rfl (g80)) ?_
            refine KO.q rfl (q_move rfl) ?_
            refine KO.q rfl (q_field fo_33_1 rfl) ?_
            refine KO.q rfl (q_load1D ck_31 rfl) ?_
            refine KO.q rfl (q_len Try.underlying31 rfl) ?_
            refine KO.q rfl (q_eqT rfl rfl (by rw [hl0.1]; rfl)) ?_
            refine KO.q rfl (q_pickT rfl rfl) ?_
            refine KO.q rfl (q_move rfl) ?_
            refine KO.q rfl (q_field fo_33_0 rfl) ?_
            refine KO.q rfl (q_load1D ck_3 rfl) ?_
            refine KO.q rfl (q_eqT rfl rfl (hl0.2)) ?_
            refine KO.q rfl (q_pickT rfl rfl) ?_
            refine KO.q rfl (q_pickF rfl rfl) ?_
            refine KO.q rfl (q_assign rfl) ?_
            refine KO.done ?_
            refine K.ret (fn := Try.f3) Try.func3 (fun a w hk hs => res1 Try.results3 hk rfl) (fun w hs => ?_)
            exact ⟨_, [], rfl, ⟨rfl, rfl⟩, hs.fitD⟩
        · rintro _ _ ⟨b7, rfl, rfl⟩
          refine D.all (rs := [7]) (by kernel_rfl) rfl (DAll.cons rfl (by kernel_rfl) (OpL.callD rfl (h := st_Apply (RowF Kd.eff (some ⟨b66, 0, none⟩) [putE, x]) ⟨9, some ⟨b19, 0, none⟩, 2, [oq, ot]⟩ 10 (some ⟨b66, 0, none⟩) 2 [putE, x] isF hgood (show 10 + 2 ≤ 100000000 by decide))) (.inr (by rintro _ _ ⟨_, ⟨s', rfl, hs1, rfl, hs2⟩, rfl⟩ w h; exact h.subD)) rfl ?_ DAll.nil)
          rintro _ _ ⟨_, ⟨s', rfl, hs1, rfl, hs2⟩, rfl⟩
          rw [hst, ← hrr] at hs1
          rw [hst, ← hrr]
          refine D.q 8 rfl (by kernel_rfl) (by kernel_rfl) (q_move rfl) (fun _ h => h.subD) ?_
          refine D.q 9 rfl (by kernel_rfl) (by kernel_rfl) (q_extract rfl rfl) (fun _ h => h.subD) ?_
          refine D.q 10 rfl (by kernel_rfl) (by kernel_rfl) (q_extract rfl rfl) (fun _ h => h.subD) ?_
          refine D.all (rs := [12]) (by kernel_rfl) rfl (DAll.consN rfl (by kernel_rfl) (l_storeAll ck_33 rfl rfl ⟨rfl, rfl⟩ (sz_one _) (by repeat (first | exact Pick.here | apply Pick.there))) (.inr (by rintro _ _ ⟨rfl, rfl⟩ w h; exact h.subD)) rfl ?_ DAll.nil)
          rintro _ _ ⟨rfl, rfl⟩
          refine D.q 13 rfl (by kernel_rfl) (by kernel_rfl) (q_assign rfl) (fun _ h => h.subD) ?_
          refine D.done (by kernel_rfl) ?_
          refine K.seq <| K.seq ?_
          have hlen : s'.l.length = r.1.objs.length := by rw [← objs_len, hs1]
          have hnx : s'.next = r.1.next := congrArg Stt.next hs1
          refine K.drawU (by repeat (first | apply SubL.pers | apply SubL.drop | exact SubL.none)) mixed ?_
          refine D.q 0 rfl (by kernel_rfl) (by kernel_rfl) (q_move rfl) (fun _ h => h.subD) ?_
          refine D.q 2 rfl (by kernel_rfl) (by kernel_rfl) (q_move rfl) (fun _ h => h.subD) ?_
          refine D.q 3 rfl (by kernel_rfl) (by kernel_rfl) (q_move rfl) (fun _ h => h.subD) ?_
          refine D.q 4 rfl (by kernel_rfl) (by kernel_rfl) (q_ix (xs := swant) i se_37 rfl rfl rfl isF (by repeat (first | exact List.Mem.head _ | apply List.Mem.tail)) rfl hi) (fun _ h => h.subD) ?_
          refine D.q 5 rfl (by kernel_rfl) (by kernel_rfl) (q_ldE (xs := swant) ck_3 rfl isF (by repeat (first | exact List.Mem.head _ | apply List.Mem.tail)) hw rfl) (fun _ h => h.subD) ?_
          refine D.all (rs := [1]) (by kernel_rfl) rfl (DAll.cons rfl (by kernel_rfl) (OpL.callD rfl (h := l19_num _)) (.inr (by rintro _ _ ⟨_, ⟨rfl, rfl⟩, rfl⟩ w h; exact h.subD)) rfl ?_ DAll.nil)
          rintro _ _ ⟨_, ⟨rfl, rfl⟩, rfl⟩
          refine D.q 6 rfl (by kernel_rfl) (by kernel_rfl) (q_neF rfl rfl (hwv)) (fun _ h => h.subD) ?_
          refine D.done (by kernel_rfl) ?_
          refine K.no rfl ?_
          refine K.skip <| K.seq ?_
          refine K.region ?_
          refine KO.q rfl (q_move rfl) ?_
          refine KO.loud rfl (OpL.callD rfl (h := l19_num _)) ?_
          rintro _ _ ⟨_, ⟨rfl, rfl⟩, rfl⟩
          refine KO.q rfl (q_eq rfl rfl) ?_
          refine KO.q rfl (q_move rfl) ?_
          refine KO.dsplit 80 rfl (fun g80 => ?_) (fun g80 => ?_)
          · have hl2 : s'.l.length = 2 := by
              have := hok2.2
              rw [if_pos g80] at this
              rw [hlen]; exact of_decide_eq_true this
            refine KO.q rfl (q_field fo_33_1 rfl) ?_
            refine KO.q rfl (q_load1D ck_31 rfl) ?_
            refine KO.q rfl (q_len Try.underlying31 rfl) ?_
            refine KO.q rfl (q_eqT rfl rfl (by rw [hl2]; rfl)) ?_
            refine KO.q rfl (q_pickT rfl rfl) ?_
            refine KO.q rfl (q_move rfl) ?_
            refine KO.skip rfl ?_
            refine KO.skip rfl ?_
            refine KO.skip rfl ?_
            refine KO.skip rfl ?_
            refine KO.gone rfl ?_
            refine KO.gone rfl ?_
            refine KO.gone rfl ?_
            refine KO.gone rfl ?_
            refine KO.skip rfl ?_
            refine KO.skip rfl ?_
            refine KO.gone rfl ?_
            refine KO.gone rfl ?_
            refine KO.gone rfl ?_
            refine KO.skip rfl ?_
            refine KO.q rfl (q_pickT rfl rfl) ?_
            refine KO.q rfl (q_assign rfl) ?_
            refine KO.done ?_
            refine K.ret (fn := Try.f3) Try.func3 (fun a w hk hs => res1 Try.results3 hk rfl) (fun w hs => ?_)
            exact ⟨_, [], rfl, ⟨rfl, rfl⟩, hs.fitD⟩
          · have hl0 : s'.l.length = 0 ∧ s'.next = 0 := by
              have := hok2.2
              rw [if_neg g80, Bool.and_eq_true] at this
              rw [hlen, hnx]; exact ⟨of_decide_eq_true this.1, of_decide_eq_true this.2⟩
            refine KO.skip rfl ?_
            refine KO.skip rfl ?_
            refine KO.skip rfl ?_
            refine KO.skip rfl ?_
            refine KO.q rfl (q_pickF rfl rfl) ?_
            refine KO.q rfl (q_move rfl) ?_
            refine KO.q rfl (q_move rfl) ?_
            refine KO.loud rfl (OpL.callD rfl (h := l19_num _)) ?_
            rintro _ _ ⟨_, ⟨rfl, rfl⟩, rfl⟩
            refine KO.q rfl (q_neT rfl rfl (g80)) ?_
            refine KO.q rfl (q_move rfl) ?_
            refine KO.q rfl (q_field fo_33_1 rfl) ?_
            refine KO.q rfl (q_load1D ck_31 rfl) ?_
            refine KO.q rfl (q_len Try.underlying31 rfl) ?_
            refine KO.q rfl (q_eqT rfl rfl (by rw [hl0.1]; rfl)) ?_
            refine KO.q rfl (q_pickT rfl rfl) ?_
            refine KO.q rfl (q_move rfl) ?_
            refine KO.q rfl (q_field fo_33_0 rfl) ?_
            refine KO.q rfl (q_load1D ck_3 rfl) ?_
            refine KO.q rfl (q_eqT rfl rfl (hl0.2)) ?_
            refine KO.q rfl (q_pickT rfl rfl) ?_
            refine KO.q rfl (q_pickF rfl rfl) ?_
            refine KO.q rfl (q_assign rfl) ?_
            refine KO.done ?_
            refine K.ret (fn := Try.f3) Try.func3 (fun a w hk hs => res1 Try.results3 hk rfl) (fun w hs => ?_)
            exact ⟨_, [], rfl, ⟨rfl, rfl⟩, hs.fitD⟩
      · rintro _ _ ⟨b7, rfl, rfl⟩
        refine D.all (rs := [6]) (by kernel_rfl) rfl (DAll.cons rfl (by kernel_rfl) (l_sliceR (enc := Eff.cells) [putE, x] eff_sz (by decide) sz_36_2 rfl rfl) (.inr (by rintro _ _ ⟨b66, rfl, rfl⟩ w h; exact h.subD)) rfl ?_ DAll.nil)
        rintro _ _ ⟨b66, rfl, rfl⟩
        refine D.st (fun w h => pv_effs [putE, x] rfl h) ?_
        refine D.all (rs := [7]) (by kernel_rfl) rfl (DAll.cons rfl (by kernel_rfl) (OpL.callD rfl (h := st_Apply (RowF Kd.eff (some ⟨b66, 0, none⟩) [putE, x]) ⟨9, some ⟨b19, 0, none⟩, 2, [oq, ot]⟩ 10 (some ⟨b66, 0, none⟩) 2 [putE, x] isF hgood (show 10 + 2 ≤ 100000000 by decide))) (.inr (by rintro _ _ ⟨_, ⟨s', rfl, hs1, rfl, hs2⟩, rfl⟩ w h; exact h.subD)) rfl ?_ DAll.nil)
        rintro _ _ ⟨_, ⟨s', rfl, hs1, rfl, hs2⟩, rfl⟩
        rw [hst, ← hrr] at hs1
        rw [hst, ← hrr]
        refine D.q 8 rfl (by kernel_rfl) (by kernel_rfl) (q_move rfl) (fun _ h => h.subD) ?_
        refine D.q 9 rfl (by kernel_rfl) (by kernel_rfl) (q_extract rfl rfl) (fun _ h => h.subD) ?_
        refine D.q 10 rfl (by kernel_rfl) (by kernel_rfl) (q_extract rfl rfl) (fun _ h => h.subD) ?_
        refine D.all (rs := [12]) (by kernel_rfl) rfl (DAll.consN rfl (by kernel_rfl) (l_storeAll ck_33 rfl rfl ⟨rfl, rfl⟩ (sz_one _) (by repeat (first | exact Pick.here | apply Pick.there))) (.inr (by rintro _ _ ⟨rfl, rfl⟩ w h; exact h.subD)) rfl ?_ DAll.nil)
        rintro _ _ ⟨rfl, rfl⟩
        refine D.q 13 rfl (by kernel_rfl) (by kernel_rfl) (q_assign rfl) (fun _ h => h.subD) ?_
        refine D.done (by kernel_rfl) ?_
        refine K.seq <| K.seq ?_
        have hlen : s'.l.length = r.1.objs.length := by rw [← objs_len, hs1]
        have hnx : s'.next = r.1.next := congrArg Stt.next hs1
        refine K.drawU (by repeat (first | apply SubL.pers | apply SubL.drop | exact SubL.none)) mixed ?_
        refine D.q 0 rfl (by kernel_rfl) (by kernel_rfl) (q_move rfl) (fun _ h => h.subD) ?_
        refine D.q 2 rfl (by kernel_rfl) (by kernel_rfl) (q_move rfl) (fun _ h => h.subD) ?_
        refine D.q 3 rfl (by kernel_rfl) (by kernel_rfl) (q_move rfl) (fun _ h => h.subD) ?_
        refine D.q 4 rfl (by kernel_rfl) (by kernel_rfl) (q_ix (xs := swant) i se_37 rfl rfl rfl isF (by repeat (first | exact List.Mem.head _ | apply List.Mem.tail)) rfl hi) (fun _ h => h.subD) ?_
        refine D.q 5 rfl (by kernel_rfl) (by kernel_rfl) (q_ldE (xs := swant) ck_3 rfl isF (by repeat (first | exact List.Mem.head _ | apply List.Mem.tail)) hw rfl) (fun _ h => h.subD) ?_
        refine D.all (rs := [1]) (by kernel_rfl) rfl (DAll.cons rfl (by kernel_rfl) (OpL.callD rfl (h := l19_num _)) (.inr (by rintro _ _ ⟨_, ⟨rfl, rfl⟩, rfl⟩ w h; exact h.subD)) rfl ?_ DAll.nil)
        rintro _ _ ⟨_, ⟨rfl, rfl⟩, rfl⟩
        refine D.q 6 rfl (by kernel_rfl) (by kernel_rfl) (q_neF rfl rfl (hwv)) (fun _ h => h.subD) ?_
        refine D.done (by kernel_rfl) ?_
        refine K.no rfl ?_
        refine K.skip <| K.seq ?_
        refine K.region ?_
        refine KO.q rfl (q_move rfl) ?_
        refine KO.loud rfl (OpL.callD rfl (h := l19_num _)) ?_
        rintro _ _ ⟨_, ⟨rfl, rfl⟩, rfl⟩
        refine KO.q rfl (q_eq rfl rfl) ?_
        refine KO.q rfl (q_move rfl) ?_
        refine KO.dsplit 80 rfl (fun g80 => ?_) (fun g80 => ?_)
        · have hl2 : s'.l.length = 2 := by
            have := hok2.2
            rw [if_pos g80] at this
            rw [hlen]; exact of_decide_eq_true this
          refine KO.q rfl (q_field fo_33_1 rfl) ?_
          refine KO.q rfl (q_load1D ck_31 rfl) ?_
          refine KO.q rfl (q_len Try.underlying31 rfl) ?_
          refine KO.q rfl (q_eqT rfl rfl (by rw [hl2]; rfl)) ?_
          refine KO.q rfl (q_pickT rfl rfl) ?_
          refine KO.q rfl (q_move rfl) ?_
          refine KO.skip rfl ?_
          refine KO.skip rfl ?_
          refine KO.skip rfl ?_
          refine KO.skip rfl ?_
          refine KO.gone rfl ?_
          refine KO.gone rfl ?_
          refine KO.gone rfl ?_
          refine KO.gone rfl ?_
          refine KO.skip rfl ?_
          refine KO.skip rfl ?_
          refine KO.gone rfl ?_
          refine KO.gone rfl ?_
          refine KO.gone rfl ?_
          refine KO.skip rfl ?_
          refine KO.q rfl (q_pickT rfl rfl) ?_
          refine KO.q rfl (q_assign rfl) ?_
          refine KO.done ?_
          refine K.ret (fn := Try.f3) Try.func3 (fun a w hk hs => res1 Try.results3 hk rfl) (fun w hs => ?_)
          exact ⟨_, [], rfl, ⟨rfl, rfl⟩, hs.fitD⟩
        · have hl0 : s'.l.length = 0 ∧ s'.next = 0 := by
            have := hok2.2
            rw [if_neg g80, Bool.and_eq_true] at this
            rw [hlen, hnx]; exact ⟨of_decide_eq_true this.1, of_decide_eq_true this.2⟩
          refine KO.skip rfl ?_
          refine KO.skip rfl ?_
          refine KO.skip rfl ?_
          refine KO.skip rfl ?_
          refine KO.q rfl (q_pickF rfl rfl) ?_
          refine KO.q rfl (q_move rfl) ?_
          refine KO.q rfl (q_move rfl) ?_
          refine KO.loud rfl (OpL.callD rfl (h := l19_num _)) ?_
          rintro _ _ ⟨_, ⟨rfl, rfl⟩, rfl⟩
          refine KO.q rfl (q_neT rfl rfl (g80)) ?_
          refine KO.q rfl (q_move rfl) ?_
          refine KO.q rfl (q_field fo_33_1 rfl) ?_
          refine KO.q rfl (q_load1D ck_31 rfl) ?_
          refine KO.q rfl (q_len Try.underlying31 rfl) ?_
          refine KO.q rfl (q_eqT rfl rfl (by rw [hl0.1]; rfl)) ?_
          refine KO.q rfl (q_pickT rfl rfl) ?_
          refine KO.q rfl (q_move rfl) ?_
          refine KO.q rfl (q_field fo_33_0 rfl) ?_
          refine KO.q rfl (q_load1D ck_3 rfl) ?_
          refine KO.q rfl (q_eqT rfl rfl (hl0.2)) ?_
          refine KO.q rfl (q_pickT rfl rfl) ?_
          refine KO.q rfl (q_pickF rfl rfl) ?_
          refine KO.q rfl (q_assign rfl) ?_
          refine KO.done ?_
          refine K.ret (fn := Try.f3) Try.func3 (fun a w hk hs => res1 Try.results3 hk rfl) (fun w hs => ?_)
          exact ⟨_, [], rfl, ⟨rfl, rfl⟩, hs.fitD⟩
end Go.Proofs.Ythnmoiilaaoooaa.L
