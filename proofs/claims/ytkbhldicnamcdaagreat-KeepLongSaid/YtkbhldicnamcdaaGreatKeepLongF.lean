/- A store goes on over any number of changes, image by image, and is opened as it was; no condition. -/
import Derived.KernelRfl
import Derived.Test.YtkbhldicnamcdaaGreatKeepLongE
namespace Go.Proofs.YtkbhldicnamcdaaGreat.L
open Go
set_option linter.unusedVariables false
set_option linter.unusedSimpArgs false
theorem len_now {d d' : Dk} (h : d'.now = d.now) : d'.len = d.len := by rw [← Dk.now_len, ← Dk.now_len, h]
theorem IC.congr {k : Ks} {d d' : Dk} (h : IC k d) (hn : d'.now = d.now) : IC k d' := h.agree (len_now hn) (fun j _ => read_agree (len_now hn) (fun i _ => by rw [hn]))
theorem IC.only {k : Ks} {d d' : Dk} {R : Nat → Prop} (h : IC k d) (hl : d.l = []) (ho : Only R d d') (hlen : d'.len = d.len) (hR : ∀ i : Nat, R i → ¬ Dep k (i : Int)) : IC k d' :=
  h.agree hlen (fun j hj => read_agree hlen (fun i hi => ho.now hl (fun hr => hR i hr (hi ▸ hj))))
theorem IC.onlyC {k : Ks} {d d' : Dk} {R : Nat → Prop} (h : IC k d) (hl : d.l = []) (ho : Only R d d') (hlen : d'.len = d.len) (hR : ∀ i : Nat, R i → ¬ Dep k (i : Int)) (keep : List Bool) : IC k (d'.crash keep) :=
  h.agree ((Dk.crash_len _ _).trans hlen) (fun j hj => read_agree ((Dk.crash_len _ _).trans hlen) (fun i hi => ho.crash hl keep (fun hr => hR i hr (hi ▸ hj))))
theorem sync_yes {d : Dk} (h : d.sync.1 = true) : d.sync.2 = ⟨d.now, [], d.lim, d.cnt⟩ := by
  unfold Dk.sync at h ⊢
  split at h
  · cases h
  · rename_i ho; rw [if_neg ho]
theorem sync_no {d : Dk} (h : d.sync.1 = false) : d.sync.2 = d := by
  unfold Dk.sync at h ⊢
  split at h
  · rename_i ho; rw [if_pos ho]
  · cases h
theorem write_fail {d : Dk} {i : Int} {b : Sec} (h : (d.write i b).1 = false) : (d.write i b).2 = d := by
  unfold Dk.write at h ⊢
  split at h
  · cases h
  · rename_i ho; rw [if_neg ho]
theorem write_done {d : Dk} {i : Int} {b : Sec} (h : (d.write i b).1 = true) : (d.write i b).2 = d.put i.toNat b := by
  unfold Dk.write at h ⊢
  split at h
  · rename_i ho; rw [if_pos ho]
  · cases h
theorem crash_clean {d : Dk} (h : d.l = []) (keep : List Bool) : (d.crash keep).now = d.now := by
  show laid d.sure (Dk.stay d.l keep) = laid d.sure d.l
  rw [h]; rfl
theorem crash_one {d : Dk} {w : Nat × Sec} (h : d.l = [w]) (keep : List Bool) : (d.crash keep).now = d.now ∨ (d.crash keep).now = d.sure := by
  show laid d.sure (Dk.stay d.l keep) = laid d.sure d.l ∨ laid d.sure (Dk.stay d.l keep) = d.sure
  rw [h]
  have e : Dk.stay [w] keep = if keep.getD 0 false = true then [w] else [] := by
    unfold Dk.stay
    simp only [List.zipIdx_cons, List.zipIdx_nil, List.filter_cons, List.filter_nil]
    split <;> rfl
  rw [e]
  split
  · exact .inl rfl
  · exact .inr rfl
theorem write_free {d : Dk} {i : Int} {b : Sec} (hl : d.lim = none) (hi : 0 ≤ i ∧ i < (d.len : Int)) (hb : b.length = 64) : (d.write i b).1 = true ∧ (d.write i b).2.lim = none := by
  unfold Dk.write
  rw [if_pos (by unfold Dk.may Dk.off; rw [hl]; simp [hi, hb])]
  exact ⟨rfl, by show d.lim.map Nat.pred = none; rw [hl]; rfl⟩
theorem sync_free {d : Dk} (hl : d.lim = none) : d.sync.1 = true ∧ d.sync.2.lim = none := by
  unfold Dk.sync Dk.off
  rw [if_neg (by rw [hl]; simp)]
  exact ⟨rfl, hl⟩
theorem puts_free : ∀ {l : List Sec} {d : Dk} {i : Int}, d.lim = none → 0 ≤ i → i + l.length ≤ (d.len : Int) → (∀ s ∈ l, s.length = 64) → (d.puts i l).1 = true ∧ (d.puts i l).2.lim = none
  | [], _, _, h, _, _, _ => ⟨rfl, h⟩
  | s :: l, d, i, h, h0, h1, hs => by
    rw [List.length_cons] at h1
    obtain ⟨w1, w2⟩ := write_free h ⟨h0, by omega⟩ (hs s List.mem_cons_self)
    rw [Dk.puts_cons, if_pos w1]
    exact puts_free w2 tO (by rw [Dk.write_len]; omega) (fun x hx => hs x (List.mem_cons_of_mem _ hx))
theorem spanPut_free {d : Dk} {i : Int} {b : List UInt8} (hl : d.lim = none) (h0 : 0 ≤ i) (h1 : i + need b.length ≤ (d.len : Int)) : (d.spanPut i b).1 = true ∧ (d.spanPut i b).2.lim = none := by
  have hn := need_nn (b.length : Int)
  unfold Dk.spanPut
  split
  · exact ⟨rfl, hl⟩
  · rw [if_pos (by unfold Dk.lies; simp only [Bool.and_eq_true, decide_eq_true_eq]; omega)]
    exact puts_free hl h0 (by rw [secsOf_len]; omega) (secsOf_all b)
structure Live (k : Ks) (d : Dk) : Prop where
  ic : IC k d
  l : d.l = []
  wf : d.wf
theorem Live.ok {k : Ks} {d : Dk} (h : Live k d) : KsOk k := kRead_ok h.wf h.ic.rd
theorem Live.crash {k : Ks} {d : Dk} (h : Live k d) (keep : List Bool) : Live k (d.crash keep) := ⟨h.ic.congr (crash_clean h.l keep), rfl, h.wf.crash keep⟩
theorem IC.lg {k : Ks} {d : Dk} (h : IC k d) : k.lg.at_ = 194 ∧ k.lg.end_ = 354 ∧ k.lg.epoch = k.epoch ∧ k.lg.failed = false ∧ k.dead = false ∧ 194 ≤ k.lg.next := by
  obtain ⟨b, s0, h1, h2, h3, h4, h5⟩ := (kRead_iff h.ep).1 h.rd
  have hb := kBegin_eq d k.epoch
  have hn := kBegin_next d k.epoch
  rw [← h3] at hb hn
  exact ⟨hb.1, hb.2.1, hb.2.2.1, hb.2.2.2, h5, hn⟩
def renewed (s' : Stt) (E : Int) : Ks := ⟨s', E, false, ⟨194, 354, 194, E, [], false⟩⟩
theorem img_ok {s : Stt} (hr : s.right = true) (hz : s.size ≤ 6144) : (imgBytes s).length ≤ 6144 ∧ imgRead (imgBytes s) = some s := by
  have he : imgBytes s = s.bytes := if_pos hr
  have hl := bytes_le_size s
  have hs := right_SR hr
  have hc := cnt_size s
  rw [he]
  refine ⟨by omega, ?_⟩
  have := imgRead_bytes hr (by have := hs.nx; omega) (by have := hs.len; omega) (fun o ho => ob_sm (hs.obj o ho) (by have := cnt_mem ho; omega)) []
  rw [List.append_nil, if_pos rfl] at this
  exact this
theorem bit0_succ (e : Int) : bit0 (e + 1) = 1 - bit0 e := by unfold bit0; omega
theorem need_96 {n : Int} (h : n ≤ 6144) : need n ≤ 96 := by
  by_cases hz : n < 1
  · unfold need; rw [if_pos hz]; decide
  · rw [need_pos tO]; omega
theorem rtLay_spec {k : Ks} {d : Dk} {s' : Stt} (h : Live k d) (hr : s'.right = true) (hz : s'.size ≤ 6144) (hE : k.epoch + 1 ≤ top) :
    ((rtLay (k.epoch + 1) (imgBytes s') d).1 = true → Live (renewed s' (k.epoch + 1)) (rtLay (k.epoch + 1) (imgBytes s') d).2) ∧
    (∀ keep, IC k ((rtLay (k.epoch + 1) (imgBytes s') d).2.crash keep) ∨ IC (renewed s' (k.epoch + 1)) ((rtLay (k.epoch + 1) (imgBytes s') d).2.crash keep)) ∧
    (d.lim = none → (rtLay (k.epoch + 1) (imgBytes s') d).1 = true ∧ (rtLay (k.epoch + 1) (imgBytes s') d).2.lim = none) := by
  obtain ⟨hi, hread⟩ := img_ok hr hz
  obtain ⟨E, hEE⟩ : ∃ E, E = k.epoch + 1 := ⟨_, rfl⟩
  obtain ⟨img, himg⟩ : ∃ img, img = imgBytes s' := ⟨_, rfl⟩
  rw [← himg] at hi hread ⊢
  rw [← hEE] at hE ⊢
  have h1 := h.ic.ep
  have hb := bit0_succ k.epoch
  rw [← hEE] at hb
  have hb01 := bit0_01 k.epoch
  have hn := need_96 (n := (img.length : Int)) tO
  have hnn := need_nn (img.length : Int)
  have hpE : rtPlace E = 2 + bit0 E * 96 := rfl
  have hpe : rtPlace k.epoch = 2 + bit0 k.epoch * 96 := rfl
  have hlg := h.ic.lg
  have hlen := h.ic.len
  -- the image
  obtain ⟨d1, hd1⟩ : ∃ d1, d1 = (d.spanPut (rtPlace E) img).2 := ⟨_, rfl⟩
  have hl1 : d1.len = d.len := by rw [hd1]; exact Dk.spanPut_len _ _ _
  have hw1 : d1.wf := by rw [hd1]; exact h.wf.spanPut _ _
  have ho1 := only_spanPut d (rtPlace E) img
  rw [← hd1] at ho1
  have hR : ∀ i : Nat, (rtPlace E ≤ (i : Int) ∧ (i : Int) < rtPlace E + need img.length) → ¬ Dep k (i : Int) := fun i hi hdep => by
    rcases hdep with e | e | ⟨a, c⟩ | ⟨a, c⟩
    · omega
    · omega
    · rcases hb01 with e | e <;> rw [e] at hb <;> rw [hb] at hpE <;> rw [e] at hpe <;> omega
    · have := hb01; omega
  have hA : ∀ keep, IC k (d1.crash keep) := h.ic.onlyC h.l ho1 hl1 hR
  have hA1 : IC k d1 := h.ic.only h.l ho1 hl1 hR
  have hlay : rtLay E img d = if (d.spanPut (rtPlace E) img).1 = true then (DM.also Dk.sync (DM.also (fun d => d.write (bit0 E) (rootS E img.length)) Dk.sync)) d1 else (false, d1) := by rw [hd1]; rfl
  by_cases c1 : (d.spanPut (rtPlace E) img).1 = true
  rotate_left
  · rw [hlay, if_neg c1]
    exact ⟨fun hf => (by cases hf), fun keep => .inl (hA keep), fun hln => absurd (spanPut_free hln tO tO).1 c1⟩
  rw [if_pos c1] at hlay
  have hget : d1.spanGet (rtPlace E) img.length = img := by rw [hd1]; exact spanPut_get c1 tO
  by_cases c2 : d1.sync.1 = true
  rotate_left
  · have c2' : d1.sync.1 = false := by simpa using c2
    have hl2 : rtLay E img d = (false, d1) := by rw [hlay]; unfold DM.also; rw [if_neg c2, sync_no c2']
    rw [hl2]
    exact ⟨fun hf => (by cases hf), fun keep => .inl (hA keep), fun hln => absurd (sync_free (by rw [hd1]; exact (spanPut_free hln tO tO).2)).1 c2⟩
  obtain ⟨d2, hd2⟩ : ∃ d2, d2 = d1.sync.2 := ⟨_, rfl⟩
  have hd2' : d2 = ⟨d1.now, [], d1.lim, d1.cnt⟩ := by rw [hd2]; exact sync_yes c2
  have hn2 : d2.now = d1.now := by rw [hd2']; rfl
  have hl2 : d2.l = [] := by rw [hd2']
  have hw2 : d2.wf := by rw [hd2]; exact hw1.sync
  have hlen2 : d2.len = d1.len := len_now hn2
  have hB : IC k d2 := hA1.congr hn2
  have hget2 : d2.spanGet (rtPlace E) img.length = img := by
    rw [spanGet_agree hlen2 (fun j _ _ => read_agree hlen2 (fun i _ => by rw [hn2]))]; exact hget
  have hlay2 : rtLay E img d = (DM.also (fun d => d.write (bit0 E) (rootS E img.length)) Dk.sync) d2 := by rw [hlay]; unfold DM.also; rw [if_pos c2, ← hd2]
  have hlim2 : d.lim = none → d2.lim = none := fun hln => by rw [hd2]; exact (sync_free (by rw [hd1]; exact (spanPut_free hln tO tO).2)).2
  by_cases c3 : (d2.write (bit0 E) (rootS E img.length)).1 = true
  rotate_left
  · have c3' : (d2.write (bit0 E) (rootS E img.length)).1 = false := by simpa using c3
    have hl3 : rtLay E img d = (false, d2) := by rw [hlay2]; unfold DM.also; dsimp only; rw [if_neg c3, write_fail c3']
    rw [hl3]
    exact ⟨fun hf => (by cases hf), fun keep => .inl (hB.congr (crash_clean hl2 keep)), fun hln => absurd (write_free (hlim2 hln) ⟨by omega, by omega⟩ (rootS_len _ _)).1 c3⟩
  obtain ⟨d3, hd3⟩ : ∃ d3, d3 = (d2.write (bit0 E) (rootS E img.length)).2 := ⟨_, rfl⟩
  have hlen3 : d3.len = d2.len := by rw [hd3]; exact Dk.write_len _ _ _
  have hw3 : d3.wf := by rw [hd3]; exact hw2.write _ _
  have hl3 : d3.l = [((bit0 E).toNat, rootS E img.length)] := by rw [hd3, write_done c3]; show d2.l ++ _ = _; rw [hl2]; rfl
  have hs3 : d3.sure = d2.now := by rw [hd3, write_done c3]; show d2.sure = laid d2.sure d2.l; rw [hl2]; rfl
  have hr3 : d3.read (bit0 E) = rootS E img.length := by rw [hd3]; exact (write_read c3).1
  have ho3 : ∀ j : Int, j ≠ bit0 E → d3.read j = d2.read j := fun j hj => by rw [hd3]; exact write_other hj
  have hC : IC (renewed s' E) d3 := by
    refine IC.root tO hE tO hr3 ?_ hi hread ?_ (fun e' n a c => ?_)
    · rw [spanGet_agree hlen3 (fun j a _ => ho3 j tO)]; exact hget2
    · have e1 : 1 - bit0 E = bit0 k.epoch := by omega
      rw [e1]
      obtain ⟨b, s0, g1, _⟩ := (kRead_iff hB.ep).1 hB.rd
      rw [rtE_agree hlen3 (ho3 _ tO), (rtRead_some.1 g1).1]
      show k.epoch < E; omega
    · rw [ho3 194 tO]
      exact hB.fresh e' n tO c
  have hD : ∀ keep, IC k (d3.crash keep) ∨ IC (renewed s' E) (d3.crash keep) := fun keep => by
    rcases crash_one hl3 keep with e | e
    · exact .inr (hC.congr e)
    · exact .inl (hB.congr (by rw [e, hs3]))
  by_cases c4 : d3.sync.1 = true
  rotate_left
  · have c4' : d3.sync.1 = false := by simpa using c4
    have hl4 : rtLay E img d = (false, d3) := by rw [hlay2]; unfold DM.also; dsimp only; rw [if_pos c3, ← hd3]; exact Prod.ext c4' (sync_no c4')
    rw [hl4]
    exact ⟨fun hf => (by cases hf), hD, fun hln => absurd (sync_free (by rw [hd3]; exact (write_free (hlim2 hln) ⟨by omega, by omega⟩ (rootS_len _ _)).2)).1 c4⟩
  have hl4 : rtLay E img d = (true, ⟨d3.now, [], d3.lim, d3.cnt⟩) := by rw [hlay2]; unfold DM.also; dsimp only; rw [if_pos c3, ← hd3]; exact Prod.ext c4 (sync_yes c4)
  have hF : IC (renewed s' E) ⟨d3.now, [], d3.lim, d3.cnt⟩ := hC.congr rfl
  rw [hl4]
  exact ⟨fun _ => ⟨hF, rfl, by have := hw3.sync; rw [sync_yes c4] at this; exact this⟩, fun keep => .inr (hF.congr (crash_clean rfl keep)), fun hln => ⟨rfl, by show d3.lim = none; rw [hd3]; exact (write_free (hlim2 hln) ⟨by omega, by omega⟩ (rootS_len _ _)).2⟩⟩
end Go.Proofs.YtkbhldicnamcdaaGreat.L
namespace Go.Proofs.YtkbhldicnamcdaaGreat.L
open Go
set_option linter.unusedVariables false
set_option linter.unusedSimpArgs false
def added (k : Ks) (b : List UInt8) (st' : Stt) : Ks := { k with st := st', lg := { k.lg with recs := k.lg.recs ++ [b], next := k.lg.behind b } }
theorem lay_spec {k : Ks} {d : Dk} {b : List UInt8} {es : List Eff} {st' : Stt} (h : Live k d) (hep : k.epoch ≤ top) (hf : k.lg.fits b.length = true) (he : effRead b = some es) (hs : applyS k.st es = (st', 0)) :
    ((k.lg.lay b d).1 = true → Live (added k b st') (k.lg.lay b d).2) ∧
    (∀ keep, IC k ((k.lg.lay b d).2.crash keep) ∨ IC (added k b st') ((k.lg.lay b d).2.crash keep)) ∧
    (d.lim = none → (k.lg.lay b d).1 = true ∧ (k.lg.lay b d).2.lim = none) := by
  have hok := h.ok
  have hlgw := hok.lg
  have hlg := h.ic.lg
  have hlen := h.ic.len
  have hfi := Lg.fits_iff.1 hf
  have hsz := Lg.fits_size hlgw (Int.natCast_nonneg _) hf
  have hnn := need_nn (b.length : Int)
  have hpl := rtPlace_rng k.epoch
  have hbe : k.lg.behind b = k.lg.next + 1 + need b.length := rfl
  obtain ⟨nx, hnx⟩ : ∃ nx, nx = k.lg.next := ⟨_, rfl⟩
  obtain ⟨bh, hbh⟩ : ∃ bh, bh = k.lg.behind b := ⟨_, rfl⟩
  -- the record
  obtain ⟨d1, hd1⟩ : ∃ d1, d1 = (d.spanPut (k.lg.next + 1) b).2 := ⟨_, rfl⟩
  have hl1 : d1.len = d.len := by rw [hd1]; exact Dk.spanPut_len _ _ _
  have hw1 : d1.wf := by rw [hd1]; exact h.wf.spanPut _ _
  have ho1 := only_spanPut d (k.lg.next + 1) b
  rw [← hd1] at ho1
  have hR : ∀ i : Nat, k.lg.next < (i : Int) → ¬ Dep k (i : Int) := fun i hi hdep => by
    rcases hdep with e | e | ⟨a, c⟩ | ⟨a, c⟩ <;> omega
  have ho1 : Only (fun j => k.lg.next < (j : Int)) d d1 := ho1.mono (fun j hj => by omega)
  have hA : ∀ keep, IC k (d1.crash keep) := h.ic.onlyC h.l ho1 hl1 hR
  have hA1 : IC k d1 := h.ic.only h.l ho1 hl1 hR
  obtain ⟨F2, hF2⟩ : ∃ F2 : DM, F2 = (fun d => if k.lg.behind b < k.lg.end_ then d.write (k.lg.behind b) zSec else (true, d)) := ⟨_, rfl⟩
  obtain ⟨hd, hhd⟩ : ∃ hd, hd = lgHead k.lg.epoch (k.lg.recs.length + 1) b.length := ⟨_, rfl⟩
  have hhl : hd.length = 64 := by rw [hhd]; exact lgHead_len _ _ _
  have hlay : k.lg.lay b d = if (d.spanPut (k.lg.next + 1) b).1 = true then (DM.also F2 (DM.also Dk.sync (DM.also (fun d => d.write k.lg.next hd) Dk.sync))) d1 else (false, d1) := by rw [hd1, hF2, hhd]; rfl
  by_cases c1 : (d.spanPut (k.lg.next + 1) b).1 = true
  rotate_left
  · rw [hlay, if_neg c1]
    exact ⟨fun hf => (by cases hf), fun keep => .inl (hA keep), fun hln => absurd (spanPut_free hln tO tO).1 c1⟩
  rw [if_pos c1] at hlay
  have hget : d1.spanGet (k.lg.next + 1) b.length = b := by rw [hd1]; exact spanPut_get c1 tO
  have hlm1 : d.lim = none → d1.lim = none := fun hln => by rw [hd1]; exact (spanPut_free hln tO tO).2
  -- the sector behind
  obtain ⟨d2, hd2⟩ : ∃ d2, d2 = (F2 d1).2 := ⟨_, rfl⟩
  have hF : (F2 d1 = (true, d1) ∧ ¬ k.lg.behind b < k.lg.end_) ∨ (F2 d1 = d1.write (k.lg.behind b) zSec ∧ k.lg.behind b < k.lg.end_) := by
    rw [hF2]
    dsimp only
    split
    · exact .inr ⟨rfl, by assumption⟩
    · exact .inl ⟨rfl, by assumption⟩
  have hl2 : d2.len = d1.len := by
    rcases hF with ⟨e, _⟩ | ⟨e, _⟩ <;> rw [hd2, e]
    exact Dk.write_len _ _ _
  have hw2 : d2.wf := by
    rcases hF with ⟨e, _⟩ | ⟨e, _⟩ <;> rw [hd2, e]
    · exact hw1
    · exact hw1.write _ _
  have ho2 : Only (fun j => k.lg.next < (j : Int)) d d2 := by
    refine ho1.trans ?_
    rcases hF with ⟨e, _⟩ | ⟨e, _⟩ <;> rw [hd2, e]
    · exact Only.refl _ _
    · exact (only_write _ _ _).mono (fun j hj => by omega)
  have hoth2 : ∀ j : Int, j ≠ k.lg.behind b → d2.read j = d1.read j := fun j hj => by
    rcases hF with ⟨e, _⟩ | ⟨e, _⟩ <;> rw [hd2, e]
    exact write_other hj
  have hB : ∀ keep, IC k (d2.crash keep) := h.ic.onlyC h.l ho2 (hl2.trans hl1) hR
  have hB1 : IC k d2 := h.ic.only h.l ho2 (hl2.trans hl1) hR
  have hget2 : d2.spanGet (k.lg.next + 1) b.length = b := by
    rw [spanGet_agree hl2 (fun j a c => hoth2 j ?_)]
    · exact hget
    · have : Dk.cutN b.length = (b.length : Int) := by unfold Dk.cutN; omega
      rw [this] at c; omega
  have hlay2 : k.lg.lay b d = if (F2 d1).1 = true then (DM.also Dk.sync (DM.also (fun d => d.write k.lg.next hd) Dk.sync)) d2 else (false, d2) := by rw [hlay, hd2]; rfl
  have hlm2 : d.lim = none → (F2 d1).1 = true ∧ d2.lim = none := fun hln => by
    rcases hF with ⟨e, _⟩ | ⟨e, hlt⟩ <;> rw [hd2, e]
    · exact ⟨rfl, hlm1 hln⟩
    · exact write_free (hlm1 hln) ⟨by omega, by omega⟩ zSec_len'
  by_cases c2 : (F2 d1).1 = true
  rotate_left
  · rw [hlay2, if_neg c2]
    exact ⟨fun hf => (by cases hf), fun keep => .inl (hB keep), fun hln => absurd (hlm2 hln).1 c2⟩
  rw [if_pos c2] at hlay2
  have hzz : k.lg.behind b < 354 → d2.read (k.lg.behind b) = zSec := fun hlt => by
    rcases hF with ⟨e, hx⟩ | ⟨e, hx⟩
    · omega
    · rw [hd2, e]; rw [e] at c2; exact (write_read c2).1
  -- all sure
  by_cases c3 : d2.sync.1 = true
  rotate_left
  · have c3' : d2.sync.1 = false := by simpa using c3
    have hl3 : k.lg.lay b d = (false, d2) := by rw [hlay2]; unfold DM.also; rw [if_neg c3, sync_no c3']
    rw [hl3]
    exact ⟨fun hf => (by cases hf), fun keep => .inl (hB keep), fun hln => absurd (sync_free (hlm2 hln).2).1 c3⟩
  obtain ⟨d3, hd3⟩ : ∃ d3, d3 = d2.sync.2 := ⟨_, rfl⟩
  have hd3' : d3 = ⟨d2.now, [], d2.lim, d2.cnt⟩ := by rw [hd3]; exact sync_yes c3
  have hn3 : d3.now = d2.now := by rw [hd3']; rfl
  have hl3 : d3.l = [] := by rw [hd3']
  have hw3 : d3.wf := by rw [hd3]; exact hw2.sync
  have hlen3 : d3.len = d2.len := len_now hn3
  have hrd3 : ∀ j, d3.read j = d2.read j := fun j => read_agree hlen3 (fun i _ => by rw [hn3])
  have hC : IC k d3 := hB1.congr hn3
  have hlay3 : k.lg.lay b d = (DM.also (fun d => d.write k.lg.next hd) Dk.sync) d3 := by rw [hlay2]; unfold DM.also; rw [if_pos c3, ← hd3]
  have hlm3 : d.lim = none → d3.lim = none := fun hln => by rw [hd3]; exact (sync_free (hlm2 hln).2).2
  -- the head
  by_cases c4 : (d3.write k.lg.next hd).1 = true
  rotate_left
  · have c4' : (d3.write k.lg.next hd).1 = false := by simpa using c4
    have hl4 : k.lg.lay b d = (false, d3) := by rw [hlay3]; unfold DM.also; dsimp only; rw [if_neg c4, write_fail c4']
    rw [hl4]
    exact ⟨fun hf => (by cases hf), fun keep => .inl (hC.congr (crash_clean hl3 keep)), fun hln => absurd (write_free (hlm3 hln) ⟨by omega, by omega⟩ hhl).1 c4⟩
  obtain ⟨d4, hd4⟩ : ∃ d4, d4 = (d3.write k.lg.next hd).2 := ⟨_, rfl⟩
  have hlen4 : d4.len = d3.len := by rw [hd4]; exact Dk.write_len _ _ _
  have hw4 : d4.wf := by rw [hd4]; exact hw3.write _ _
  have hl4 : d4.l = [((k.lg.next).toNat, hd)] := by rw [hd4, write_done c4]; show d3.l ++ _ = _; rw [hl3]; rfl
  have hs4 : d4.sure = d3.now := by rw [hd4, write_done c4]; show d3.sure = laid d3.sure d3.l; rw [hl3]; rfl
  have hr4 : d4.read k.lg.next = hd := by rw [hd4]; exact (write_read c4).1
  have ho4 : ∀ j : Int, j ≠ k.lg.next → d4.read j = d3.read j := fun j hj => by rw [hd4]; exact write_other hj
  have hcb : Dk.cutN b.length = (b.length : Int) := by unfold Dk.cutN; omega
  have hD : IC (added k b st') d4 := by
    refine hC.head hep hlgw hlen4 (fun j _ hj => ho4 j hj) hf ?_ ?_ ?_ he hs
    · rw [hr4, hhd, hlg.2.2.1]
    · rw [spanGet_agree hlen4 (fun j a c => ho4 j tO), spanGet_agree hlen3 (fun j _ _ => hrd3 j)]; exact hget2
    · intro hlt
      rw [ho4 _ tO, hrd3]; exact hzz hlt
  have hE : ∀ keep, IC k (d4.crash keep) ∨ IC (added k b st') (d4.crash keep) := fun keep => by
    rcases crash_one hl4 keep with e | e
    · exact .inr (hD.congr e)
    · exact .inl (hC.congr (by rw [e, hs4]))
  have hlm4 : d.lim = none → d4.lim = none := fun hln => by rw [hd4]; exact (write_free (hlm3 hln) ⟨by omega, by omega⟩ hhl).2
  by_cases c5 : d4.sync.1 = true
  rotate_left
  · have c5' : d4.sync.1 = false := by simpa using c5
    have hl5 : k.lg.lay b d = (false, d4) := by rw [hlay3]; unfold DM.also; dsimp only; rw [if_pos c4, ← hd4]; exact Prod.ext c5' (sync_no c5')
    rw [hl5]
    exact ⟨fun hf => (by cases hf), hE, fun hln => absurd (sync_free (hlm4 hln)).1 c5⟩
  have hl5 : k.lg.lay b d = (true, ⟨d4.now, [], d4.lim, d4.cnt⟩) := by rw [hlay3]; unfold DM.also; dsimp only; rw [if_pos c4, ← hd4]; exact Prod.ext c5 (sync_yes c5)
  have hG : IC (added k b st') ⟨d4.now, [], d4.lim, d4.cnt⟩ := hD.congr rfl
  rw [hl5]
  exact ⟨fun _ => ⟨hG, rfl, by have := hw4.sync; rw [sync_yes c5] at this; exact this⟩, fun keep => .inr (hG.congr (crash_clean rfl keep)), fun hln => ⟨rfl, hlm4 hln⟩⟩
theorem i64_succ {n : Int} (h : 1 ≤ n) (h2 : n + 1 ≤ top) : i64 (n + 1) = n + 1 := by unfold i64; unfold top at h2; omega
theorem live_lg {s' : Stt} {E : Int} {d : Dk} (h : IC (renewed s' E) d) : kBegin d E = ⟨194, 354, 194, E, [], false⟩ := by
  obtain ⟨b, s0, h1, h2, h3, h4, h5⟩ := (kRead_iff h.ep).1 h.rd
  exact h3.symm
theorem renew_spec {k : Ks} {d : Dk} {s' : Stt} (h : Live k d) (hr : s'.right = true) (hz : s'.size ≤ 6144) (hE : k.epoch + 1 ≤ top) :
    ((kRenew { k with st := s' } d).1 = 0 ∧ (kRenew { k with st := s' } d).2.1 = renewed s' (k.epoch + 1) ∧ Live (renewed s' (k.epoch + 1)) (kRenew { k with st := s' } d).2.2 ∨ (kRenew { k with st := s' } d).1 = 12 ∧ (kRenew { k with st := s' } d).2.1 = { k with st := s' }) ∧
    (∀ keep, IC k ((kRenew { k with st := s' } d).2.2.crash keep) ∨ IC (renewed s' (k.epoch + 1)) ((kRenew { k with st := s' } d).2.2.crash keep)) ∧
    (d.lim = none → (kRenew { k with st := s' } d).1 = 0 ∧ (kRenew { k with st := s' } d).2.2.lim = none) := by
  obtain ⟨g1, g2, g3⟩ := rtLay_spec h hr hz hE
  have hi := (img_ok hr hz).1
  have h1 := h.ic.ep
  have hdead := h.ic.lg.2.2.2.2.1
  have e1 := i64_succ h1 hE
  obtain ⟨W, hW⟩ : ∃ W, W = rtLay (k.epoch + 1) (imgBytes s') d := ⟨_, rfl⟩
  rw [← hW] at g1 g2 g3
  have hrt : rtWrite (k.epoch + 1) (imgBytes s') d = if W.1 = true then (0, W.2) else (12, W.2) := by
    rw [hW]; unfold rtWrite; rw [if_neg tO, if_neg tO]
  have hkr : kRenew { k with st := s' } d = if W.1 = true then (0, { k with st := s', epoch := k.epoch + 1, lg := kBegin W.2 (k.epoch + 1) }, W.2) else (12, { k with st := s' }, W.2) := by
    unfold kRenew
    dsimp only
    rw [e1, hrt]
    by_cases c : W.1 = true
    · rw [if_pos c, if_pos c]; rfl
    · rw [if_neg c, if_neg c]; rfl
  rw [hkr]
  by_cases c : W.1 = true
  · rw [if_pos c]
    have hlv := g1 c
    have hk2 : ({ k with st := s', epoch := k.epoch + 1, lg := kBegin W.2 (k.epoch + 1) } : Ks) = renewed s' (k.epoch + 1) := by
      rw [live_lg hlv.ic]; unfold renewed; rw [← hdead]
    exact ⟨.inl ⟨rfl, hk2, hlv⟩, g2, fun hln => ⟨rfl, (g3 hln).2⟩⟩
  · rw [if_neg c]
    exact ⟨.inr ⟨rfl, rfl⟩, g2, fun hln => absurd (g3 hln).1 c⟩
theorem append_eq {g : Lg} {b : List UInt8} {d : Dk} (h1 : g.failed = false) (h2 : g.fits b.length = true) : g.append b d = if (g.lay b d).1 = true then (0, { g with recs := g.recs ++ [b], next := g.behind b }, (g.lay b d).2) else (12, { g with failed := true }, (g.lay b d).2) := by
  unfold Lg.append
  rw [if_neg (by rw [h1]; decide), if_neg (by rw [h2]; decide)]
  rfl
structure Added (k : Ks) (b : List UInt8) (st' : Stt) (d : Dk) : Prop where
  done : (kAppend k b d).1 = 0 → ∃ k', (kAppend k b d).2.1 = { k' with st := k.st } ∧ k'.st = st' ∧ Live k' (kAppend k b d).2.2 ∧ k.epoch ≤ k'.epoch ∧ k'.epoch ≤ k.epoch + 1
  err : (kAppend k b d).1 = 0 ∨ (kAppend k b d).1 = 12 ∨ ((kAppend k b d).1 = 9 ∧ 10176 < b.length ∧ (kAppend k b d).2 = (k, d))
  safe : ∀ keep, ∃ k', IC k' ((kAppend k b d).2.2.crash keep) ∧ (k'.st = k.st ∨ k'.st = st') ∧ k'.epoch ≤ k.epoch + 1
  free : d.lim = none → (kAppend k b d).1 ≠ 12 ∧ (kAppend k b d).2.2.lim = none
theorem append_spec {k : Ks} {d : Dk} {b : List UInt8} {es : List Eff} {st' : Stt} (h : Live k d) (hz : k.st.size ≤ 6144) (hE : k.epoch + 1 ≤ top) (he : effRead b = some es) (hs : applyS k.st es = (st', 0)) : Added k b st' d := by
  have hok := h.ok
  have hlg := h.ic.lg
  have h1 := h.ic.ep
  have hb0 : 0 < b.length := by
    rcases Nat.eq_zero_or_pos b.length with h0 | h0
    · rw [List.length_eq_zero_iff.1 h0, show effRead [] = none from rfl] at he; cases he
    · exact h0
  have hfit : ∀ {g : Lg}, g.wf → ¬ g.room < (b.length : Int) → g.fits b.length = true := fun {g} hg hr => by
    have := hg.nx
    unfold Lg.room at hr
    refine Lg.fits_iff.2 ⟨by omega, ?_⟩
    rw [need_pos tO]; omega
  -- a record added where it fits
  have key : ∀ {k2 : Ks} {d2 : Dk}, Live k2 d2 → k2.st = k.st → k2.epoch ≤ top → k2.lg.fits b.length = true →
      ((k2.lg.append b d2).1 = 0 → { k2 with lg := (k2.lg.append b d2).2.1 } = { added k2 b st' with st := k.st } ∧ Live (added k2 b st') (k2.lg.append b d2).2.2) ∧
      ((k2.lg.append b d2).1 = 0 ∨ (k2.lg.append b d2).1 = 12) ∧ (∀ keep, IC k2 ((k2.lg.append b d2).2.2.crash keep) ∨ IC (added k2 b st') ((k2.lg.append b d2).2.2.crash keep)) ∧ (d2.lim = none → (k2.lg.append b d2).1 ≠ 12 ∧ (k2.lg.append b d2).2.2.lim = none) := fun {k2 d2} hl2 hst2 hep hf => by
    obtain ⟨g1, g2, g3⟩ := lay_spec hl2 hep hf he (by rw [hst2]; exact hs)
    rw [append_eq hl2.ic.lg.2.2.2.1 hf]
    by_cases c : (k2.lg.lay b d2).1 = true
    · rw [if_pos c]
      exact ⟨fun _ => ⟨by unfold added; rw [← hst2], g1 c⟩, .inl rfl, g2, fun hln => ⟨by show (0 : Int) ≠ 12; decide, (g3 hln).2⟩⟩
    · rw [if_neg c]
      exact ⟨fun e => absurd (show (12 : Int) = 0 from e) tD, .inr rfl, g2, fun hln => absurd (g3 hln).1 c⟩
  by_cases c1 : k.lg.room < (b.length : Int)
  · by_cases c2 : 10176 < (b.length : Int)
    · have hr : kAppend k b d = (9, k, d) := by unfold kAppend; rw [if_pos c1, if_pos c2]
      refine ⟨fun e => ?_, .inr (.inr ⟨by rw [hr], by omega, by rw [hr]⟩), fun keep => ⟨k, by rw [hr]; exact (h.crash keep).ic, .inl rfl, by omega⟩, fun hln => ⟨by rw [hr]; show (9 : Int) ≠ 12; decide, by rw [hr]; exact hln⟩⟩
      rw [hr] at e; exact absurd (show (9 : Int) = 0 from e) tD
    · obtain ⟨r1, r2, r3⟩ := renew_spec h hok.right hz hE
      have hk0 : ({ k with st := k.st } : Ks) = k := rfl
      rw [hk0] at r1 r2 r3
      rcases r1 with ⟨q1, q2, q3⟩ | ⟨q1, q2⟩
      · obtain ⟨D, hD⟩ : ∃ D, D = (kRenew k d).2.2 := ⟨_, rfl⟩
        rw [← hD] at q3 r2 r3
        have hr : kAppend k b d = (((renewed k.st (k.epoch + 1)).lg.append b D).1, { renewed k.st (k.epoch + 1) with lg := ((renewed k.st (k.epoch + 1)).lg.append b D).2.1 }, ((renewed k.st (k.epoch + 1)).lg.append b D).2.2) := by
          unfold kAppend; rw [if_pos c1, if_neg c2]; dsimp only; rw [if_pos q1, q2, ← hD]
        have hf2 : (renewed k.st (k.epoch + 1)).lg.fits b.length = true := by
          refine Lg.fits_iff.2 ⟨by show (1 : Int) ≤ 354 - 194; decide, ?_⟩
          show need b.length ≤ 354 - 194 - 1
          rw [need_pos tO]; omega
        obtain ⟨g1, g2, g3, g4⟩ := key q3 rfl hE hf2
        refine ⟨fun e => ?_, ?_, fun keep => ?_, fun hln => ?_⟩
        · rw [hr] at e ⊢
          obtain ⟨a1, a2⟩ := g1 e
          exact ⟨_, a1, rfl, a2, by show k.epoch ≤ k.epoch + 1; omega, Int.le_refl _⟩
        · rw [hr]; exact g2.elim .inl (fun e => .inr (.inl e))
        · rw [hr]
          rcases g3 keep with a | a
          · exact ⟨_, a, .inl rfl, Int.le_refl _⟩
          · exact ⟨_, a, .inr rfl, Int.le_refl _⟩
        · rw [hr]; exact g4 (r3 hln).2
      · have hr : kAppend k b d = kRenew k d := by unfold kAppend; rw [if_pos c1, if_neg c2]; dsimp only; rw [if_neg (by rw [q1]; decide)]
        refine ⟨fun e => ?_, .inr (.inl (by rw [hr]; exact q1)), fun keep => ?_, fun hln => ?_⟩
        · rw [hr, q1] at e; exact absurd e tD
        · rw [hr]
          rcases r2 keep with a | a
          · exact ⟨_, a, .inl rfl, by omega⟩
          · exact ⟨_, a, .inl rfl, Int.le_refl _⟩
        · have := (r3 hln).1; rw [q1] at this; exact absurd this tD
  · have hr : kAppend k b d = ((k.lg.append b d).1, { k with lg := (k.lg.append b d).2.1 }, (k.lg.append b d).2.2) := by unfold kAppend; rw [if_neg c1]
    obtain ⟨g1, g2, g3, g4⟩ := key h rfl tO (hfit hok.lg c1)
    refine ⟨fun e => ?_, ?_, fun keep => ?_, fun hln => ?_⟩
    · rw [hr] at e ⊢
      obtain ⟨a1, a2⟩ := g1 e
      exact ⟨_, a1, rfl, a2, Int.le_refl _, by show k.epoch ≤ k.epoch + 1; omega⟩
    · rw [hr]; exact g2.elim .inl (fun e => .inr (.inl e))
    · rw [hr]
      rcases g3 keep with a | a
      · exact ⟨_, a, .inl rfl, by omega⟩
      · exact ⟨_, a, .inr rfl, by show k.epoch ≤ k.epoch + 1; omega⟩
    · rw [hr]; exact g4 hln
end Go.Proofs.YtkbhldicnamcdaaGreat.L
namespace Go.Proofs.YtkbhldicnamcdaaGreat.L
open Go
set_option linter.unusedVariables false
set_option linter.unusedSimpArgs false
def dk1 : Dk := (kOpen (Dk.new 354)).2.2
def ks1 : Ks := renewed ⟨1, []⟩ 1
theorem new_open : (kOpen (Dk.new 354)).1 = 0 := by kernel_rfl
theorem new_store : (kOpen (Dk.new 354)).2.1 = ks1 := by kernel_rfl
theorem new_read : kRead dk1 = some ks1 := by kernel_rfl
theorem new_l : dk1.l = [] := by kernel_rfl
theorem new_len : dk1.len = 354 := by kernel_rfl
theorem new_cnt : dk1.cnt = 2 := by kernel_rfl
theorem new_194 : dk1.read 194 = zSec := by kernel_rfl
theorem new_live : Live ks1 dk1 := ⟨⟨new_read, new_len, by decide, fun e' n _ _ => by rw [new_194]; exact zero_head _ _ _⟩, new_l, kOpen_wf (Dk.wf_new 354)⟩
theorem apply_nil {s : Stt} (h : s.right = true) : applyS s [] = (s, 0) := by rw [apply_eq h]; rfl
structure Done (k : Ks) (l : List Eff) (d : Dk) : Prop where
  ok : (kDo k l d).1 = 0 → (applyS k.st l).2 = 0 ∧ Live (kDo k l d).2.1 (kDo k l d).2.2 ∧ (kDo k l d).2.1.st = (applyS k.st l).1 ∧ (applyS k.st l).1.size ≤ 6000 ∧ k.epoch ≤ (kDo k l d).2.1.epoch ∧ (kDo k l d).2.1.epoch ≤ k.epoch + 1
  no : (kDo k l d).1 ≠ 0 → (kDo k l d).1 ≠ 12 → (kDo k l d).2 = (k, d)
  broke : (kDo k l d).1 = 12 → (applyS k.st l).2 = 0 ∧ (kDo k l d).2.1.dead = true ∧ (kDo k l d).2.1.st = k.st
  safe : ∀ keep, ∃ k', IC k' ((kDo k l d).2.2.crash keep) ∧ (k'.st = k.st ∨ ((applyS k.st l).2 = 0 ∧ k'.st = (applyS k.st l).1 ∧ (applyS k.st l).1.size ≤ 6000)) ∧ k'.epoch ≤ k.epoch + 1
  free : d.lim = none → (kDo k l d).1 ≠ 12 ∧ (kDo k l d).2.2.lim = none
theorem do_spec {k : Ks} {d : Dk} {l : List Eff} (h : Live k d) (hz : k.st.size ≤ 6000) (hE : k.epoch + 1 ≤ top) (hl : l.length ≤ 10000) : Done k l d := by
  have hok := h.ok
  have hdd := h.ic.lg.2.2.2.2.1
  have hcode := apply_code k.st l
  have stay : ∀ {e : Int}, kDo k l d = (e, k, d) → e ≠ 0 → e ≠ 12 → Done k l d := fun {e} hr h0 h12 =>
    ⟨fun e' => by rw [hr] at e'; exact absurd e' h0, fun _ _ => by rw [hr], fun e' => by rw [hr] at e'; exact absurd e' h12, fun keep => ⟨k, by rw [hr]; exact (h.crash keep).ic, .inl rfl, by omega⟩, fun hln => ⟨by rw [hr]; exact h12, by rw [hr]; exact hln⟩⟩
  by_cases c1 : (applyS k.st l).2 = 0
  rotate_left
  · exact stay (e := (applyS k.st l).2) (by unfold kDo; rw [if_neg (by rw [hdd]; decide), if_pos c1]) c1 tO
  by_cases c2 : (6000 : Int) < ((applyS k.st l).1.size : Nat)
  · exact stay (e := 9) (by unfold kDo; rw [if_neg (by rw [hdd]; decide), if_neg (by rw [c1]; decide), if_pos c2]) tD tD
  by_cases c3 : l = []
  · have hr : kDo k l d = (0, k, d) := by unfold kDo; rw [if_neg (by rw [hdd]; decide), if_neg (by rw [c1]; decide), if_neg c2, if_pos c3]
    have ha : applyS k.st l = (k.st, 0) := by rw [c3]; exact apply_nil hok.right
    refine ⟨fun _ => ⟨c1, by rw [hr]; exact h, by rw [hr, ha], by omega, by rw [hr]; exact Int.le_refl _, by rw [hr]; show k.epoch ≤ _; omega⟩, fun e => ?_, fun e => ?_, fun keep => ⟨k, by rw [hr]; exact (h.crash keep).ic, .inl rfl, by omega⟩, fun hln => ⟨by rw [hr]; show (0 : Int) ≠ 12; decide, by rw [hr]; exact hln⟩⟩
    · rw [hr] at e; exact absurd rfl e
    · rw [hr] at e; exact absurd (show (0 : Int) = 12 from e) tD
  · have hr : kDo k l d = ((kAppend k (effsBytes l) d).1, { (kAppend k (effsBytes l) d).2.1 with dead := decide ((kAppend k (effsBytes l) d).1 = 12), st := if (kAppend k (effsBytes l) d).1 = 0 then (applyS k.st l).1 else k.st }, (kAppend k (effsBytes l) d).2.2) := by
      unfold kDo; rw [if_neg (by rw [hdd]; decide), if_neg (by rw [c1]; decide), if_neg c2, if_neg c3]
    obtain ⟨a1, a2, a3, a4⟩ := append_spec (st' := (applyS k.st l).1) h tO hE (effs_back c1 hl) (Prod.ext rfl c1)
    generalize kAppend k (effsBytes l) d = r at hr a1 a2 a3 a4
    refine ⟨fun e => ?_, fun e e2 => ?_, fun e => ?_, fun keep => ?_, fun hln => ?_⟩
    · rw [hr] at e ⊢
      have e : r.1 = 0 := e
      obtain ⟨k', b1, b2, b3, b4, b5⟩ := a1 e
      have hkk : ({ r.2.1 with dead := decide (r.1 = 12), st := if r.1 = 0 then (applyS k.st l).1 else k.st } : Ks) = k' := by
        have hd' := b3.ic.lg.2.2.2.2.1
        rw [b1, e, if_pos rfl]
        obtain ⟨st, ep, dd, lg⟩ := k'
        dsimp only at b2 hd' ⊢
        rw [b2, hd']; rfl
      exact ⟨c1, by show Live { r.2.1 with dead := decide (r.1 = 12), st := if r.1 = 0 then (applyS k.st l).1 else k.st } r.2.2; rw [hkk]; exact b3, by show (if r.1 = 0 then (applyS k.st l).1 else k.st) = _; rw [if_pos e], by omega, by show k.epoch ≤ r.2.1.epoch; rw [b1]; exact b4, by show r.2.1.epoch ≤ _; rw [b1]; exact b5⟩
    · rw [hr] at e e2
      rcases a2 with q | q | ⟨q1, q2, q3⟩
      · exact absurd q e
      · exact absurd q e2
      · rw [hr]
        have e1 : r.2.1 = k := by rw [q3]
        have e2 : r.2.2 = d := by rw [q3]
        show ({ r.2.1 with dead := decide (r.1 = 12), st := if r.1 = 0 then (applyS k.st l).1 else k.st }, r.2.2) = _
        rw [e1, e2, q1]
        obtain ⟨st, ep, dd, lg⟩ := k
        cases hdd
        rfl
    · rw [hr] at e ⊢
      have e : r.1 = 12 := e
      exact ⟨c1, by show decide (r.1 = 12) = true; rw [e]; rfl, by show (if r.1 = 0 then _ else k.st) = k.st; rw [if_neg (by rw [e]; decide)]⟩
    · obtain ⟨k', b1, b2, b3⟩ := a3 keep
      exact ⟨k', by rw [hr]; exact b1, b2.imp id (fun e => ⟨c1, e, by omega⟩), b3⟩
    · rw [hr]; exact a4 hln
end Go.Proofs.YtkbhldicnamcdaaGreat.L
namespace Go.Proofs.YtkbhldicnamcdaaGreat.L
open Go Go.Proofs
attribute [local irreducible] pv fv pt fz RowF RowO rowP old pure_ elA Rd.int Rd.text Rd.flag Rd.msg Rd.rint Rd.rtext Rd.rflag Rd.rmsg
set_option maxRecDepth 100000
set_option linter.unusedSimpArgs false
set_option linter.unusedVariables false
attribute [local irreducible] DkX KsX
def tT : ByteArray := ⟨#[116]⟩
def mkT : Eff := ⟨1, tT, ⟨#[]⟩, ⟨#[]⟩, 1, 0, false, ⟨0, 0, 0, false, ⟨#[]⟩, ⟨#[]⟩⟩⟩
def stT (rows : List Rw) : Stt := ⟨1, [⟨tT, 1, 0, rows, [], []⟩]⟩
def ks2 : Ks := (kDo ks1 [mkT] dk1).2.1
def dk2 : Dk := (kDo ks1 [mkT] dk1).2.2
theorem mk_done : (kDo ks1 [mkT] dk1).1 = 0 := by kernel_rfl
theorem ks2_st : ks2.st = stT [] := by kernel_rfl
theorem ks2_ep : ks2.epoch = 1 := by kernel_rfl
theorem ks2_next : ks2.lg.next = 197 := by kernel_rfl
theorem dk2_lim : dk2.lim = none := by kernel_rfl
theorem dk2_cnt : dk2.cnt = 6 := by kernel_rfl
theorem ks1_size : ks1.st.size = 16 := by kernel_rfl
theorem live2 : Live ks2 dk2 := ((do_spec (l := [mkT]) new_live (by rw [ks1_size]; decide) tD tD).ok mk_done).2.1
theorem ks_Open0 (p : Nat) : Fn Tryz.prog 17 [.pointer (some ⟨p, 0, none⟩)].toArray [DkX p (Dk.new 354)] (fun r post => ∃ s, r = .tuple #[.pointer (some ⟨s, 0, none⟩), .int .i64 0] ∧ post = [DkX p dk1, KsX s p ks1]) :=
  (ks_OpenG p (Dk.new 354) (Dk.wf_new 354) tD (Nat.zero_le _) new_open).mono fun r post ⟨s, h1, h2⟩ => ⟨s, h1, by rw [h2, new_store]; rfl⟩
theorem ks_Do1 (s p : Nat) (q : Option Addr) : Fn Tryz.prog 24 [.pointer (some ⟨s, 0, none⟩), .slice q 1 1].toArray [RowF Kd.eff q [mkT], DkX p dk1, KsX s p ks1]
    (fun r post => r = .int .i64 0 ∧ post = [DkX p dk2, KsX s p ks2]) :=
  (ks_DoX s p dk1 ks1 q 1 [mkT] new_live.ok new_live.wf (by rw [new_len]; decide) (by rw [new_cnt]; decide) tD).mono fun r post ⟨h1, h2⟩ => ⟨by rw [h1, mk_done], h2⟩
theorem num21 (n : Int) : Fn Tryz.prog 19 [.int .i64 n].toArray [] (fun r post => r = .int .i64 n ∧ post = []) := by
  refine Fn.enter (N := 4) Tryz.func19 rfl Tryz.ntmps19 tK rfl (fun ρ L => ?_)
  refine K.seq <| K.region <| KO.q rfl (q_assign rfl) <| KO.done <| K.seq <| K.region <| KO.q rfl (q_move rfl) <| KO.q rfl (q_assign rfl) <| KO.done ?_
  refine kr1 Tryz.func19 Tryz.results19 rfl (fun w hs => ?_)
  exact ⟨_, [], rfl, ⟨rfl, rfl⟩, hs.fitD⟩
theorem st_len1 {s' : Sz} {x : Ob} {n : Int} (h : s'.st = ⟨n, [x]⟩) : s'.l.length = 1 := by
  have := congrArg (fun s : Stt => s.objs.length) h
  simpa [Sz.st] using this
set_option maxHeartbeats 1600000 in
theorem alive21 : Fn Tryz.prog 10 ([] : List Value).toArray [] (fun r post => r = .bool true ∧ post = []) := by
  have hok2 := live2.ok
  refine Fn.enter (N := 38) Tryz.func10 rfl Tryz.ntmps10 tK rfl (fun ρ L => ?_)
  refine K.seq <| K.region <| KO.q rfl (q_assign rfl) <| KO.done <| K.seq <| K.region <| KO.loud rfl (OpL.callD rfl (h := ks_Need)) ?_
  rintro _ _ ⟨_, ⟨rfl, rfl⟩, rfl⟩
  refine KO.loud rfl (OpL.callD rfl (h := dk_New 354)) ?_
  rintro _ _ ⟨_, ⟨p, rfl, rfl⟩, rfl⟩
  refine KO.loud rfl (OpL.callD rfl (h := ks_Open0 p)) ?_
  rintro _ _ ⟨_, ⟨s, rfl, rfl⟩, rfl⟩
  refine KO.q rfl (q_move rfl) <| KO.q rfl (q_extract rfl rfl) <| KO.q rfl (q_extract rfl rfl) <| KO.q rfl (q_assign rfl) <| KO.q rfl (q_assign rfl) <| KO.done <| K.seq <| K.seq <| K.region <| KO.q rfl (q_move rfl) <| KO.loud rfl (OpL.callD rfl (h := num21 _)) ?_
  rintro _ _ ⟨_, ⟨rfl, rfl⟩, rfl⟩
  refine KO.q rfl (q_ne rfl rfl) <| KO.q rfl (q_move rfl) ?_
  refine KO.dsplit 14 rfl (fun g14 => ?_) (fun g14 => ?_)
  · exact absurd g14 tD
  · refine KO.q rfl (q_move rfl) <| KO.q rfl (q_pnil Tryz.underlying36 rfl rfl) <| KO.q rfl (q_pickF rfl rfl) <| KO.done <| K.no rfl <| K.skip <| K.seq <| K.region <| KO.q rfl (q_move rfl) <| KO.loud rfl (OpL.callD rfl (h := ks_EpochX s p ks1)) ?_
    rintro _ _ ⟨_, ⟨rfl, rfl⟩, rfl⟩
    refine KO.q rfl (q_assign rfl) <| KO.done <| K.seq <| K.region <| KO.q rfl (q_move rfl) <| KO.q rfl (q_as (q_build st_58 rfl tF) (show _ = mkT.cells from rfl)) <| KO.loud rfl (l_slice1 sz_64_1 rfl rfl ⟨rfl, rfl, rfl⟩) ?_
    rintro _ _ ⟨b22, rfl, rfl⟩
    refine KO.st (fun w h => pv_effs [mkT] rfl h) <| KO.loud rfl (OpL.callD rfl (h := ks_Do1 s p (some ⟨b22, 0, none⟩))) ?_
    rintro _ _ ⟨_, ⟨rfl, rfl⟩, rfl⟩
    refine KO.q rfl (q_assign rfl) <| KO.done <| K.seq <| K.region <| KO.q rfl (q_move rfl) <| KO.q rfl (q_eqT rfl rfl (rfl)) <| KO.q rfl (q_move rfl) <| KO.q rfl (q_move rfl) <| KO.loud rfl (OpL.callD rfl (h := num21 _)) ?_
    rintro _ _ ⟨_, ⟨rfl, rfl⟩, rfl⟩
    refine KO.q rfl (q_eqT rfl rfl (rfl)) <| KO.q rfl (q_pickT rfl rfl) <| KO.q rfl (q_move rfl) <| KO.q rfl (q_move rfl) <| KO.loud rfl (OpL.callD rfl (h := ks_StateX s p ks2 hok2)) ?_
    rintro _ _ ⟨_, ⟨sz, rfl, hst, hgd, rfl⟩, rfl⟩
    have hl1 : sz.l.length = 1 := st_len1 (hst.trans ks2_st)
    refine KO.q rfl (q_fldV Tryz.underlying47 rfl ck_45 rfl rfl) <| KO.q rfl (q_len Tryz.underlying45 rfl) <| KO.q rfl (q_eqT rfl rfl ((by rw [hl1]; rfl))) <| KO.q rfl (q_pickT rfl rfl) <| KO.q rfl (q_assign rfl) <| KO.done ?_
    refine kr1 Tryz.func10 Tryz.results10 rfl (fun w hs => ?_)
    exact ⟨_, [], rfl, ⟨rfl, rfl⟩, hs.fitD⟩
end Go.Proofs.YtkbhldicnamcdaaGreat.L
namespace Go.Proofs.YtkbhldicnamcdaaGreat.L
open Go
set_option linter.unusedVariables false
set_option linter.unusedSimpArgs false
theorem append_few {g : Lg} (hg : g.wf) (b : List UInt8) (d : Dk) : d.cnt ≤ (g.append b d).2.2.cnt ∧ (g.append b d).2.2.cnt ≤ d.cnt + 4097 := by
  by_cases hf : g.fits b.length = true
  · have h1 := g.append_cnt b d
    have h2 := Lg.fits_need hg hf
    omega
  · unfold Lg.append
    split
    · exact ⟨Nat.le_refl _, Nat.le_add_right _ _⟩
    · rw [if_pos (by simpa using hf)]; exact ⟨Nat.le_refl _, Nat.le_add_right _ _⟩
theorem kDo_few {k : Ks} {d : Dk} (hk : k.lg.wf) (hw : d.wf) (l : List Eff) : (kDo k l d).2.2.cnt ≤ d.cnt + 4194 := by
  unfold kDo
  split
  · exact Nat.le_add_right _ _
  · split
    · exact Nat.le_add_right _ _
    · split
      · exact Nat.le_add_right _ _
      · split
        · exact Nat.le_add_right _ _
        · show (kAppend k (effsBytes l) d).2.2.cnt ≤ _
          unfold kAppend
          split
          · split
            · exact Nat.le_add_right _ _
            · dsimp only
              have h1 := kRenew_cnt k d
              split
              · have h2 := append_few (kRenew_lg hw hk) (effsBytes l) (kRenew k d).2.2
                show (Lg.append _ _ _).2.2.cnt ≤ _
                omega
              · omega
          · have h2 := append_few hk (effsBytes l) d
            show (Lg.append _ _ _).2.2.cnt ≤ _
            omega
theorem do_zero {k : Ks} {d : Dk} {l : List Eff} (h : Live k d) (hz : k.st.size ≤ 6000) (hE : k.epoch + 1 ≤ top) (hl : l.length ≤ 10000) (hln : d.lim = none) (ha : (applyS k.st l).2 = 0) (hs : (applyS k.st l).1.size ≤ 6000) (hb : (effsBytes l).length ≤ 10176) : (kDo k l d).1 = 0 := by
  have hdd := h.ic.lg.2.2.2.2.1
  unfold kDo
  rw [if_neg (by rw [hdd]; decide), if_neg (by rw [ha]; decide), if_neg tO]
  split
  · rfl
  · obtain ⟨a1, a2, a3, a4⟩ := append_spec (st' := (applyS k.st l).1) h tO hE (effs_back ha hl) (Prod.ext rfl ha)
    rcases a2 with q | q | ⟨_, q, _⟩
    · exact q
    · exact absurd q (a4 hln).1
    · omega
theorem do_full {k : Ks} {d : Dk} {l : List Eff} (h : Live k d) (ha : (applyS k.st l).2 = 0) (hs : 6000 < (applyS k.st l).1.size) : kDo k l d = (9, k, d) := by
  have hdd := h.ic.lg.2.2.2.2.1
  unfold kDo
  rw [if_neg (by rw [hdd]; decide), if_neg (by rw [ha]; decide), if_pos tO]
theorem do_next {k : Ks} {d : Dk} {l : List Eff} (h : Live k d) (hE : k.epoch + 1 ≤ top) (hl : l ≠ []) (h0 : (kDo k l d).1 = 0) (he : (kDo k l d).2.1.epoch = k.epoch) : (kDo k l d).2.1.lg.next = k.lg.next + 1 + need (effsBytes l).length := by
  have h1 := h.ic.ep
  have key : ∀ {g : Lg} {D : Dk}, (g.append (effsBytes l) D).1 = 0 → (g.append (effsBytes l) D).2.1.next = g.next + 1 + need (effsBytes l).length := fun {g D} e => by
    unfold Lg.append at e ⊢
    split
    · rename_i q; rw [if_pos q] at e; exact absurd e (by show ¬ (12 : Int) = 0; decide)
    · rename_i q; rw [if_neg q] at e
      split
      · rename_i q; rw [if_pos q] at e; exact absurd e (by show ¬ (6 : Int) = 0; decide)
      · rename_i q; rw [if_neg q] at e
        split
        · rfl
        · rename_i q; rw [if_neg q] at e; exact absurd e (by show ¬ (12 : Int) = 0; decide)
  unfold kDo at h0 he ⊢
  split
  · rename_i q; rw [if_pos q] at h0; exact absurd h0 (by show ¬ (12 : Int) = 0; decide)
  · rename_i q; rw [if_neg q] at h0 he
    split
    · rename_i q; rw [if_pos q] at h0; exact absurd h0 q
    · rename_i q; rw [if_neg q] at h0 he
      split
      · rename_i q; rw [if_pos q] at h0; exact absurd h0 (by show ¬ (9 : Int) = 0; decide)
      · rename_i q; rw [if_neg q] at h0 he
        rw [if_neg hl] at h0 he
        have h0 : (kAppend k (effsBytes l) d).1 = 0 := h0
        have he : (kAppend k (effsBytes l) d).2.1.epoch = k.epoch := he
        show (kAppend k (effsBytes l) d).2.1.lg.next = _
        unfold kAppend at h0 he ⊢
        split
        · rename_i q; rw [if_pos q] at h0 he
          split
          · rename_i q; rw [if_pos q] at h0; exact absurd h0 (by show ¬ (9 : Int) = 0; decide)
          · rename_i q; rw [if_neg q] at h0 he
            exfalso
            have hi : i64 (k.epoch + 1) = k.epoch + 1 := i64_succ h1 hE
            have hr : (kRenew k d).1 = 0 → (kRenew k d).2.1.epoch = k.epoch + 1 := fun e => by
              unfold kRenew at e ⊢
              dsimp only at e ⊢
              split
              · exact hi
              · rename_i q; rw [if_neg q] at e; exact absurd e (by show ¬ (12 : Int) = 0; decide)
            dsimp only at h0 he
            split at h0
            · rename_i q; rw [if_pos q] at he
              have he : (kRenew k d).2.1.epoch = k.epoch := he
              rw [hr q] at he; omega
            · rename_i q; exact q h0
        · rename_i q; rw [if_neg q] at h0 he
          exact key h0
section
variable {key : Nat → ByteArray} {K : Nat} (hk : ∀ i j, i < K → j < K → cmpB (key i) (key j) = cmpI i j) (v : ByteArray)
def rws (key : Nat → ByteArray) (v : ByteArray) (k : Nat) : List Rw := (List.range k).map fun j => ⟨key j, v⟩
theorem rws_len (k : Nat) : (rws key v k).length = k := by unfold rws; rw [List.length_map, List.length_range]
theorem rws_succ (k : Nat) : rws key v (k + 1) = rws key v k ++ [⟨key k, v⟩] := by unfold rws; rw [List.range_succ, List.map_append]; rfl
include hk
theorem lb_rws : ∀ k, k ≤ K → ∀ i, i < K → lbR (rws key v k) (key i) = min i k
  | 0, _, i, _ => by show 0 = min i 0; omega
  | k + 1, h, i, hi => by
    have ih := lb_rws k tO i hi
    unfold lbR at ih ⊢
    rw [rws_succ, List.takeWhile_append, ih, rws_len]
    split
    · rename_i he
      rw [List.length_append, rws_len]
      have hc := hk k i tO hi
      by_cases c : k < i
      · rw [List.takeWhile_cons_of_pos (by
          show decide (cmpB (key k) (key i) < 0) = true
          rw [hc]; unfold cmpI; rw [if_pos tO]; rfl)]
        show k + 1 = min i (k + 1); omega
      · rw [List.takeWhile_cons_of_neg (by
          show ¬ decide (cmpB (key k) (key i) < 0) = true
          rw [hc]; unfold cmpI; rw [if_neg tO]; split <;> decide)]
        show k + 0 = min i (k + 1); omega
    · rw [ih]; omega
theorem put_rws {k i : Nat} (h : k ≤ K) (hi : i < K) (hik : i ≤ k) : putR (rws key v k) ⟨key i, v⟩ = rws key v (max k (i + 1)) := by
  have hl := lb_rws hk v k h i hi
  have hm : min i k = i := by omega
  rw [hm] at hl
  unfold putR fndR
  dsimp only
  rw [hl]
  by_cases c : i < k
  · have hg : (rws key v k)[i]? = some ⟨key i, v⟩ := by
      unfold rws
      rw [List.getElem?_map, List.getElem?_range c]; rfl
    rw [hg]
    have hz : decide (cmpB (key i) (key i) = 0) = true := decide_eq_true (cmpB_self _)
    rw [if_pos (show (some (⟨key i, v⟩ : Rw)).any (fun r => decide (cmpB r.key (key i) = 0)) = true from hz)]
    rw [show max k (i + 1) = k by omega]
    obtain ⟨hb, he⟩ := List.getElem?_eq_some_iff.1 hg
    conv => rhs; rw [← List.set_getElem_self hb]
    rw [he]
  · have e : i = k := by omega
    subst e
    rw [show (rws key v i)[i]? = none from List.getElem?_eq_none (by rw [rws_len]; omega)]
    rw [if_neg (by show ¬ false = true; decide)]
    rw [show max i (i + 1) = i + 1 by omega, rws_succ]
    unfold insAt
    rw [List.take_of_length_le (by rw [rws_len]; omega), List.drop_eq_nil_of_le (by rw [rws_len]; omega), List.append_nil]
end
def stN (n : Int) (rows : List Rw) : Stt := ⟨n, [⟨tT, 1, 0, rows, [], []⟩]⟩
def putE (key v : ByteArray) : Eff := ⟨2, tT, key, v, 0, 0, false, ⟨0, 0, 0, false, ⟨#[]⟩, ⟨#[]⟩⟩⟩
def nextE (n : Int) : Eff := ⟨8, ⟨#[]⟩, ⟨#[]⟩, ⟨#[]⟩, n, 0, false, ⟨0, 0, 0, false, ⟨#[]⟩, ⟨#[]⟩⟩⟩
theorem do_put {n : Int} {rows : List Rw} {key v : ByteArray} (h1 : 1 ≤ key.size) (h2 : key.size ≤ 40) (h3 : v.size ≤ 100) : doS (stN n rows) (putE key v) = (stN n (putR rows ⟨key, v⟩), 0) := by
  have hr : (putE key v).right = true := by
    unfold Eff.right
    rw [decide_eq_true (show putE key v = (putE key v).named from rfl)]
    show (effName tT && Rw.right ⟨key, v⟩) = true
    unfold Rw.right rwKey
    rw [show effName tT = true by decide]
    simp only [Bool.true_and, Bool.and_eq_true, decide_eq_true_eq]
    omega
  have hf : findO (stN n rows) tT = 0 := by
    unfold findO idxP stN
    simp
  unfold doS
  rw [if_neg (by rw [hr]; decide), if_neg (by show ¬ (2 : Int) = 1; decide), if_neg (by show ¬ (2 : Int) = 8; decide)]
  have ho : (putE key v).object = tT := rfl
  rw [ho, hf, if_neg tD]
  show (if decide ((2 : Int) = 2 ∨ (2 : Int) = 3) ≠ decide ((1 : Int) = 1) then _ else _) = _
  rw [if_neg tD]
  show (if (2 : Int) = 2 ∨ (2 : Int) = 3 then _ else _) = _
  rw [if_pos tD]
  rfl
theorem do_nxt {n m : Int} {rows : List Rw} (h0 : 1 ≤ m) (h1 : n ≤ m) (h2 : m ≤ 1099511627776) : doS (stN n rows) (nextE m) = (stN m rows, 0) := by
  have hr : (nextE m).right = true := by
    unfold Eff.right
    rw [decide_eq_true (show nextE m = (nextE m).named from rfl)]
    show effId m = true
    unfold effId
    simp only [Bool.and_eq_true, decide_eq_true_eq]
    omega
  unfold doS
  rw [if_neg (by rw [hr]; decide), if_neg (by show ¬ (8 : Int) = 1; decide), if_pos (by show (8 : Int) = 8; decide)]
  unfold nextS
  rw [if_neg (by show ¬ m < n; omega)]
  rfl
theorem stN_size (n : Int) (rows : List Rw) : (stN n rows).size = 67 + (rows.map Rw.size).sum := by
  show 16 + ((50 + tT.size + (rows.map Rw.size).sum + 0 + 0) + 0) = _
  rw [show tT.size = 1 from rfl]; omega
theorem rws_size {key : Nat → ByteArray} {v : ByteArray} {c K : Nat} (hc : ∀ i, i < K → (key i).size = c) : ∀ k, k ≤ K → ((rws key v k).map Rw.size).sum = k * (20 + c + v.size)
  | 0, _ => by simp [rws]
  | k + 1, h => by
    rw [rws_succ, List.map_append, List.sum_append, rws_size hc k tO, Nat.succ_mul]
    show _ + (20 + (key k).size + v.size + 0) = _
    rw [hc k tO]; omega
theorem apply_one {s : Stt} {e : Eff} {t : Stt} (h : s.right = true) (h1 : doS s e = (t, 0)) : applyS s [e] = (t, 0) := by
  rw [apply_eq h]
  unfold doAll
  rw [h1, if_pos rfl]; rfl
theorem apply_two {s : Stt} {e f : Eff} {t u : Stt} (h : s.right = true) (h1 : doS s e = (t, 0)) (h2 : doS t f = (u, 0)) : applyS s [e, f] = (u, 0) := by
  rw [apply_eq h]
  unfold doAll
  rw [h1, if_pos rfl]
  unfold doAll
  rw [h2, if_pos rfl]; rfl
def azH : ByteArray := ⟨#[97, 98, 99, 100, 101, 102, 103, 104]⟩
def azJ : ByteArray := ⟨#[97, 98, 99, 100, 101, 102, 103, 104, 105, 106]⟩
def keyF (i : Nat) : ByteArray := azH.extract (i / 10) (i / 10 + 1) ++ azJ.extract (i % 10) (i % 10 + 1)
def keyL (i : Nat) : ByteArray := azJ.extract i (i + 1)
theorem keyF_all : ((List.range 80).all fun i => decide ((keyF i).size = 2) && (List.range 80).all fun j => decide (cmpB (keyF i) (keyF j) = cmpI i j)) = true := by decide +kernel
theorem keyF_size {i : Nat} (h : i < 80) : (keyF i).size = 2 := by
  have := List.all_eq_true.1 keyF_all i (List.mem_range.2 h)
  simp only [Bool.and_eq_true, decide_eq_true_eq] at this
  exact this.1
theorem keyF_cmp : ∀ i j, i < 80 → j < 80 → cmpB (keyF i) (keyF j) = cmpI i j := fun i j hi hj => by
  have := List.all_eq_true.1 keyF_all i (List.mem_range.2 hi)
  simp only [Bool.and_eq_true, decide_eq_true_eq] at this
  exact of_decide_eq_true (List.all_eq_true.1 this.2 j (List.mem_range.2 hj))
theorem keyL_all : ((List.range 10).all fun i => decide ((keyL i).size = 1) && (List.range 10).all fun j => decide (cmpB (keyL i) (keyL j) = cmpI i j)) = true := by decide +kernel
theorem keyL_size {i : Nat} (h : i < 10) : (keyL i).size = 1 := by
  have := List.all_eq_true.1 keyL_all i (List.mem_range.2 h)
  simp only [Bool.and_eq_true, decide_eq_true_eq] at this
  exact this.1
theorem keyL_cmp : ∀ i j, i < 10 → j < 10 → cmpB (keyL i) (keyL j) = cmpI i j := fun i j hi hj => by
  have := List.all_eq_true.1 keyL_all i (List.mem_range.2 hi)
  simp only [Bool.and_eq_true, decide_eq_true_eq] at this
  exact of_decide_eq_true (List.all_eq_true.1 this.2 j (List.mem_range.2 hj))
def zStr (n : Nat) : ByteArray := ⟨(List.replicate n (0 : UInt8)).toArray⟩
theorem zStr_size (n : Nat) : (zStr n).size = n := by
  show (List.replicate n (0 : UInt8)).toArray.size = n
  rw [List.size_toArray, List.length_replicate]
theorem put_bytes {key v : ByteArray} (h1 : key.size ≤ 40) (h2 : v.size ≤ 100) : (putE key v).bytes.length = 61 + key.size + v.size := by
  unfold Eff.bytes putE Msg.bytes
  simp only [List.length_append, wInt_length, wText_length, wFlag_length]
  rw [show tT.size = 1 from rfl, show (⟨#[]⟩ : ByteArray).size = 0 from rfl]; omega
theorem next_bytes (n : Int) : (nextE n).bytes.length = 60 := by
  unfold Eff.bytes nextE Msg.bytes
  simp only [List.length_append, wInt_length, wText_length, wFlag_length]
  rw [show (⟨#[]⟩ : ByteArray).size = 0 from rfl]; omega
theorem two_bytes {key v : ByteArray} (n : Int) (h1 : key.size ≤ 40) (h2 : v.size ≤ 100) : (effsBytes [putE key v, nextE n]).length = 129 + key.size + v.size := by
  unfold effsBytes
  rw [List.length_append, wInt_length, List.flatMap_cons, List.flatMap_cons, List.flatMap_nil, List.append_nil, List.length_append, put_bytes h1 h2, next_bytes]; omega
theorem one_bytes {key v : ByteArray} (h1 : key.size ≤ 40) (h2 : v.size ≤ 100) : (effsBytes [putE key v]).length = 69 + key.size + v.size := by
  unfold effsBytes
  rw [List.length_append, wInt_length, List.flatMap_cons, List.flatMap_nil, List.append_nil, put_bytes h1 h2]; omega
structure Filled (n : Nat) (i : Nat) (k : Ks) (d : Dk) : Prop where
  live : Live k d
  st : k.st = stN 1 (rws keyF (zStr n) i)
  size : k.st.size ≤ 6000
  ep : k.epoch ≤ 1 + i
  lim : d.lim = none
  cnt : d.cnt ≤ 6 + 4194 * i
def fullF (n i : Nat) : Bool := decide ((67 : Int) + ((i : Int) + 1) * (22 + n) > 6000)
theorem fill_spec {n i : Nat} {k : Ks} {d : Dk} (h : Filled n i k d) (hi : i < 80) (hn : n ≤ 100) :
    (fullF n i = true → kDo k [putE (keyF i) (zStr n)] d = (9, k, d)) ∧ (fullF n i = false → (kDo k [putE (keyF i) (zStr n)] d).1 = 0 ∧ Filled n (i + 1) (kDo k [putE (keyF i) (zStr n)] d).2.1 (kDo k [putE (keyF i) (zStr n)] d).2.2) := by
  have hz := zStr_size n
  have hks := keyF_size hi
  have hap : applyS k.st [putE (keyF i) (zStr n)] = (stN 1 (rws keyF (zStr n) (i + 1)), 0) := by
    refine apply_one h.live.ok.right ?_
    rw [h.st, do_put tO tO tO, put_rws keyF_cmp _ tO hi (Nat.le_refl _), show max i (i + 1) = i + 1 by omega]
  have hsz : (stN 1 (rws keyF (zStr n) (i + 1))).size = 67 + (i + 1) * (22 + n) := by
    rw [stN_size, rws_size (K := 80) (fun j hj => keyF_size hj) _ tO, hz]
  have hcast : ((67 + (i + 1) * (22 + n) : Nat) : Int) = 67 + ((i : Int) + 1) * (22 + n) := by simp
  have hep := h.ep
  have hE : k.epoch + 1 ≤ top := by unfold top; omega
  refine ⟨fun hf => do_full h.live (by rw [hap]) ?_, fun hf => ?_⟩
  · have hf := of_decide_eq_true hf
    rw [hap]; show 6000 < (stN 1 _).size; rw [hsz]; omega
  · have hf := of_decide_eq_false hf
    have hs : (applyS k.st [putE (keyF i) (zStr n)]).1.size ≤ 6000 := by rw [hap]; show (stN 1 _).size ≤ 6000; rw [hsz]; omega
    have h0 := do_zero h.live h.size hE (by simp) h.lim (by rw [hap]) hs (by rw [one_bytes tO tO]; omega)
    have hd := do_spec (l := [putE (keyF i) (zStr n)]) h.live h.size hE (by simp)
    obtain ⟨_, a2, a3, a4, a5, a6⟩ := hd.ok h0
    have hc := kDo_few h.live.ok.lg h.live.wf [putE (keyF i) (zStr n)]
    have hcn := h.cnt
    exact ⟨h0, a2, by rw [a3, hap], by rw [a3]; exact a4, by omega, (hd.free h.lim).2, Nat.le_trans hc tO⟩
structure Gone (n : Nat) (i : Nat) (k : Ks) (d : Dk) : Prop where
  live : Live k d
  st : k.st = stN (1 + i) (rws keyL (zStr n) (min i 10))
  ep : k.epoch ≤ 1 + i
  one : k.epoch = 1 → 197 + 4 * (i : Int) ≤ k.lg.next
  lim : d.lim = none
  cnt : d.cnt ≤ 6 + 4194 * i
theorem gone0 (n : Nat) : Gone n 0 ks2 dk2 := ⟨live2, ks2_st, by rw [ks2_ep]; decide, fun _ => by rw [ks2_next]; decide, dk2_lim, by rw [dk2_cnt]; decide⟩
theorem gone_size {n i : Nat} {k : Ks} {d : Dk} (h : Gone n i k d) (hn : n ≤ 100) : k.st.size ≤ 6000 := by
  rw [h.st, stN_size, rws_size (K := 10) (fun j hj => keyL_size hj) _ tO, zStr_size]
  have : min i 10 * (20 + 1 + n) ≤ 10 * 121 := Nat.mul_le_mul tO tO
  omega
theorem gone_late {n i : Nat} {k : Ks} {d : Dk} (h : Gone n i k d) (hi : 40 ≤ i) : 1 < k.epoch := by
  have h1 := h.live.ic.ep
  have h2 := h.live.ok.lg.nx.2
  have h3 := h.live.ic.lg.2.1
  rcases Int.lt_or_le 1 k.epoch with c | c
  · exact c
  · have := h.one tO; omega
theorem gone_spec {n i : Nat} {k : Ks} {d : Dk} (h : Gone n i k d) (hi : i < 200) (hn : n ≤ 100) :
    (kDo k [putE (keyL (i % 10)) (zStr n), nextE (i + 2)] d).1 = 0 ∧ Gone n (i + 1) (kDo k [putE (keyL (i % 10)) (zStr n), nextE (i + 2)] d).2.1 (kDo k [putE (keyL (i % 10)) (zStr n), nextE (i + 2)] d).2.2 := by
  have hz := zStr_size n
  have hm : i % 10 < 10 := Nat.mod_lt _ tD
  have hks := keyL_size hm
  have hmax : max (min i 10) (i % 10 + 1) = min (i + 1) 10 := by omega
  have hap : applyS k.st [putE (keyL (i % 10)) (zStr n), nextE (i + 2)] = (stN (i + 2) (rws keyL (zStr n) (min (i + 1) 10)), 0) := by
    refine apply_two h.live.ok.right ?_ (do_nxt (n := 1 + i) tO tO tO)
    rw [h.st, do_put tO tO tO, put_rws keyL_cmp _ tO hm tO, hmax]
  have hep := h.ep
  have hE : k.epoch + 1 ≤ top := by unfold top; omega
  have hgs := gone_size h hn
  have hs : (applyS k.st [putE (keyL (i % 10)) (zStr n), nextE (i + 2)]).1.size ≤ 6000 := by
    rw [hap]; show (stN _ _).size ≤ 6000
    rw [stN_size, rws_size (K := 10) (fun j hj => keyL_size hj) _ tO, hz]
    have : min (i + 1) 10 * (20 + 1 + n) ≤ 10 * 121 := Nat.mul_le_mul tO tO
    omega
  have hby : (effsBytes [putE (keyL (i % 10)) (zStr n), nextE (i + 2)]).length = 130 + n := by rw [two_bytes _ tO tO, hks, hz]
  have h0 := do_zero h.live hgs hE (by simp) h.lim (by rw [hap]) hs (by rw [hby]; omega)
  have hd := do_spec (l := [putE (keyL (i % 10)) (zStr n), nextE (i + 2)]) h.live hgs hE (by simp)
  obtain ⟨_, a2, a3, a4, a5, a6⟩ := hd.ok h0
  have hc := kDo_few h.live.ok.lg h.live.wf [putE (keyL (i % 10)) (zStr n), nextE (i + 2)]
  have hcn := h.cnt
  have h1 := h.live.ic.ep
  refine ⟨h0, a2, by rw [a3, hap]; show stN _ _ = stN _ _; rw [show (1 : Int) + ((i + 1 : Nat) : Int) = (i : Int) + 2 by omega], by omega, fun he => ?_, (hd.free h.lim).2, Nat.le_trans hc tO⟩
  have hke : k.epoch = 1 := by omega
  have hn1 := do_next h.live hE (by simp) h0 tO
  have hn2 := h.one hke
  rw [hn1, hby, need_pos tO]
  omega
theorem gone_open {n i : Nat} {k : Ks} {d : Dk} (h : Gone n i k d) : kOpen d = (0, k, d) := by
  unfold kOpen
  rw [h.live.ic.rd]
  dsimp only
  rw [if_pos ⟨by rw [h.st]; rfl, by have := h.live.ic.ep; omega⟩]
end Go.Proofs.YtkbhldicnamcdaaGreat.L
namespace Go.Proofs.YtkbhldicnamcdaaGreat.L
open Go Go.Proofs
attribute [local irreducible] pv fv pt fz RowF RowO rowP old pure_ elA Rd.int Rd.text Rd.flag Rd.msg Rd.rint Rd.rtext Rd.rflag Rd.rmsg
set_option maxRecDepth 100000
set_option linter.unusedSimpArgs false
set_option linter.unusedVariables false
attribute [local irreducible] DkX KsX
theorem sz_one1 {s' : Sz} {n : Int} {x : Ob} (h : s'.st = ⟨n, [x]⟩) : s'.next = n ∧ s'.l.length = 1 ∧ ∃ o, s'.l[0]? = some o ∧ o.x = x := by
  have h1 := congrArg Stt.next h
  have h2 := congrArg Stt.objs h
  have h2 : s'.l.map (·.x) = [x] := h2
  match hl : s'.l, h2 with
  | [o], h2 => exact ⟨h1, rfl, o, rfl, by simpa using h2⟩
  | [], h2 => cases h2
  | _ :: _ :: _, h2 => simp at h2
set_option maxHeartbeats 3200000 in
theorem law_KeepLong (R S : Int) : Fn Tryz.prog 4 [.int .i64 R, .int .i64 S].toArray [] (fun r post => r = .bool true ∧ post = []) := by
  have hok2 := live2.ok
  refine Fn.enter (N := 144) Tryz.func4 rfl Tryz.ntmps4 tK rfl (fun ρ L => ?_)
  refine K.seq <| K.region <| KO.q rfl (q_assign rfl) <| KO.done <| K.seq <| K.region <| KO.loud rfl (OpL.callD rfl (h := alive21)) ?_
  rintro _ _ ⟨_, ⟨rfl, rfl⟩, rfl⟩
  refine KO.q rfl (q_assign rfl) <| KO.done <| K.seq <| K.seq <| K.region <| KO.q rfl (q_move rfl) <| KO.q rfl (q_not rfl) <| KO.q rfl (q_move rfl) ?_
  refine KO.split 17 rfl (fun g17 => ?_) (fun g17 => ?_)
  · cases g17
  · refine KO.q rfl (q_move rfl) <| KO.q rfl (q_lt rfl rfl) <| KO.q rfl (q_pickF rfl rfl) <| KO.q rfl (q_move rfl) ?_
    refine KO.dsplit 21 rfl (fun g21 => ?_) (fun g21 => ?_)
    · refine KO.skip rfl <| KO.skip rfl <| KO.q rfl (q_pickT rfl rfl) <| KO.q rfl (q_move rfl) <| KO.skip rfl <| KO.skip rfl <| KO.q rfl (q_pickT rfl rfl) <| KO.q rfl (q_move rfl) <| KO.skip rfl <| KO.skip rfl ?_
      refine KO.q rfl (q_pickT rfl rfl) <| KO.done <| K.yes rfl <| K.seq <| K.region <| KO.q rfl (q_move rfl) <| KO.q rfl (q_assign rfl) <| KO.done ?_
      refine kr1 Tryz.func4 Tryz.results4 rfl (fun w hs => ?_)
      exact ⟨_, [], rfl, ⟨rfl, rfl⟩, hs.fitD⟩
    · refine KO.q rfl (q_move rfl) <| KO.q rfl (q_gt rfl rfl) <| KO.q rfl (q_pickF rfl rfl) <| KO.q rfl (q_move rfl) ?_
      refine KO.dsplit 25 rfl (fun g25 => ?_) (fun g25 => ?_)
      · refine KO.skip rfl <| KO.skip rfl <| KO.q rfl (q_pickT rfl rfl) <| KO.q rfl (q_move rfl) <| KO.skip rfl <| KO.skip rfl <| KO.q rfl (q_pickT rfl rfl) <| KO.done <| K.yes rfl <| K.seq ?_
        refine K.region <| KO.q rfl (q_move rfl) <| KO.q rfl (q_assign rfl) <| KO.done ?_
        refine kr1 Tryz.func4 Tryz.results4 rfl (fun w hs => ?_)
        exact ⟨_, [], rfl, ⟨rfl, rfl⟩, hs.fitD⟩
      · refine KO.q rfl (q_move rfl) <| KO.q rfl (q_lt rfl rfl) <| KO.q rfl (q_pickF rfl rfl) <| KO.q rfl (q_move rfl) ?_
        refine KO.dsplit 29 rfl (fun g29 => ?_) (fun g29 => ?_)
        · refine KO.skip rfl <| KO.skip rfl <| KO.q rfl (q_pickT rfl rfl) <| KO.done <| K.yes rfl <| K.seq <| K.region <| KO.q rfl (q_move rfl) <| KO.q rfl (q_assign rfl) <| KO.done ?_
          refine kr1 Tryz.func4 Tryz.results4 rfl (fun w hs => ?_)
          exact ⟨_, [], rfl, ⟨rfl, rfl⟩, hs.fitD⟩
        · refine KO.q rfl (q_move rfl) <| KO.q rfl (q_gt rfl rfl) <| KO.q rfl (q_pickF rfl rfl) <| KO.done ?_
          refine K.dcond (s := 32) rfl (fun g32 => ?_) (fun g32 => ?_)
          · refine K.seq <| K.region <| KO.q rfl (q_move rfl) <| KO.q rfl (q_assign rfl) <| KO.done ?_
            refine kr1 Tryz.func4 Tryz.results4 rfl (fun w hs => ?_)
            exact ⟨_, [], rfl, ⟨rfl, rfl⟩, hs.fitD⟩
          · refine K.skip <| K.seq <| K.region <| KO.loud rfl (OpL.callD rfl (h := ks_Need)) ?_
            rintro _ _ ⟨_, ⟨rfl, rfl⟩, rfl⟩
            refine KO.loud rfl (OpL.callD rfl (h := dk_New 354)) ?_
            rintro _ _ ⟨_, ⟨p, rfl, rfl⟩, rfl⟩
            refine KO.q rfl (q_assign rfl) <| KO.done <| K.seq <| K.region <| KO.q rfl (q_move rfl) <| KO.loud rfl (OpL.callD rfl (h := ks_Open0 p)) ?_
            rintro _ _ ⟨_, ⟨s, rfl, rfl⟩, rfl⟩
            refine KO.q rfl (q_move rfl) <| KO.q rfl (q_extract rfl rfl) <| KO.q rfl (q_extract rfl rfl) <| KO.q rfl (q_assign rfl) <| KO.q rfl (q_assign rfl) <| KO.done <| K.seq <| K.seq <| K.region <| KO.q rfl (q_move rfl) <| KO.loud rfl (OpL.callD rfl (h := num21 _)) ?_
            rintro _ _ ⟨_, ⟨rfl, rfl⟩, rfl⟩
            refine KO.q rfl (q_ne rfl rfl) <| KO.q rfl (q_move rfl) ?_
            refine KO.dsplit 44 rfl (fun g44 => ?_) (fun g44 => ?_)
            · exact absurd g44 tD
            · refine KO.q rfl (q_move rfl) <| KO.q rfl (q_pnil Tryz.underlying36 rfl rfl) <| KO.q rfl (q_pickF rfl rfl) <| KO.q rfl (q_move rfl) <| KO.q rfl (q_move rfl) <| KO.q rfl (q_as (q_build st_58 rfl tF) (show _ = mkT.cells from rfl)) <| KO.loud rfl (l_slice1 sz_64_1 rfl rfl ⟨rfl, rfl, rfl⟩) ?_
              rintro _ _ ⟨b51, rfl, rfl⟩
              refine KO.st (fun w h => pv_effs [mkT] rfl h) <| KO.loud rfl (OpL.callD rfl (h := ks_Do1 s p (some ⟨b51, 0, none⟩))) ?_
              rintro _ _ ⟨_, ⟨rfl, rfl⟩, rfl⟩
              refine KO.loud rfl (OpL.callD rfl (h := num21 _)) ?_
              rintro _ _ ⟨_, ⟨rfl, rfl⟩, rfl⟩
              refine KO.q rfl (q_ne rfl rfl) <| KO.q rfl (q_pickF rfl rfl) <| KO.done <| K.no rfl <| K.skip <| K.seq ?_
              rename_i L
              obtain ⟨m, hm⟩ : ∃ m : Nat, R = (m : Int) := ⟨R.toNat, by omega⟩
              obtain ⟨n, hn⟩ : ∃ n : Nat, S = (n : Int) := ⟨S.toNat, by omega⟩
              subst hm
              subst hn
              refine K.region <| KO.q rfl (q_move rfl) <| KO.loud rfl (l_make Kd.u8 0 (m := n) se_23 ze_5 rfl (fun _ => rfl) rfl rfl tO tO) ?_
              rintro _ _ ⟨pm, rfl, rfl⟩
              refine KO.q rfl (q_is (q_bstr Tryz.underlying23 Tryz.underlying5 Tryz.underlying9 rfl isO tM (by rw [List.length_replicate])) (show _ = Value.string (zStr n) from rfl)) <| KO.q rfl (q_assign rfl) <| KO.done <| K.seq <| K.seq <| K.region <| KO.q rfl (q_assign rfl) <| KO.done <| K.block ?_
              refine K.rounds2 (ι := { x : Nat × Ks × Dk // x.1 ≤ m ∧ Gone n x.1 x.2.1 x.2.2 }) (fun x => [(10, .int .i64 x.1.1), (0, .int .i64 m), (9, .string (zStr n)), (7, .pointer (some ⟨s, 0, none⟩)), (6, .pointer (some ⟨p, 0, none⟩))]) (fun x => [DkX p x.1.2.2, KsX s p x.1.2.1] ++ L) (fun x => m - x.1.1) ⟨(0, ks2, dk2), Nat.zero_le _, gone0 n⟩ tS (fun w h => h.fitD) (fun x ih => ?_)
              obtain ⟨⟨i, kk, dd⟩, hi, hgo⟩ := x
              dsimp only at hi hgo ⊢
              have hokk := hgo.live.ok
              have hcn := hgo.cnt
              refine K.seq <| K.seq <| K.region <| KO.q rfl (q_move rfl) <| KO.q rfl (q_move rfl) <| KO.q rfl (q_lt rfl rfl) <| KO.done ?_
              refine K.dcond (s := 61) rfl (fun g61 => ?_) (fun g61 => ?_)
              · have h200 : i < 200 := by omega
                obtain ⟨hf1, hf2⟩ := gone_spec hgo h200 (show n ≤ 100 by omega)
                refine K.skip <| K.seq <| K.block <| K.seq <| K.region <| KO.q rfl (q_move rfl) <| KO.q rfl (q_move rfl) <| KO.q rfl (q_is (q_rem rfl rfl tD) (show _ = Value.int .i64 ((i % 10 : Nat) : Int) from rfl)) <| KO.q rfl (q_move rfl) <| KO.q rfl (q_is (q_rem rfl rfl tD) (show _ = Value.int .i64 ((i % 10 : Nat) : Int) from rfl)) <| KO.q rfl (q_add rfl rfl tN tN) <| KO.q rfl (q_is (q_scutB (s := azJ) (l := ((i % 10 : Nat) : Int)) (h := ((i % 10 : Nat) : Int) + 1) Tryz.underlying9 rfl rfl rfl tO tO (by show ((i % 10 : Nat) : Int) + 1 ≤ 10; omega)) (show _ = Value.string (keyL (i % 10)) from rfl)) <| KO.q rfl (q_move rfl) ?_
                refine KO.q rfl (q_as (q_build st_58 rfl tF) (show _ = (putE (keyL (i % 10)) (zStr n)).cells from rfl)) <| KO.q rfl (q_move rfl) <| KO.q rfl (q_add rfl rfl tN tN) <| KO.q rfl (q_as (q_build st_58 rfl tF) (show _ = (nextE (i + 2)).cells from rfl)) <| KO.loud rfl (l_slice sz_64_2 rfl tF) ?_
                rintro _ _ ⟨b76, rfl, rfl⟩
                refine KO.st (fun w h => pv_effs [putE (keyL (i % 10)) (zStr n), nextE (i + 2)] rfl h) <| KO.loud rfl (OpL.callD rfl (h := ks_DoX s p dd kk (some ⟨b76, 0, none⟩) 2 [putE (keyL (i % 10)) (zStr n), nextE (i + 2)] hokk hgo.live.wf (by rw [hgo.live.ic.len]; decide) tO (by simp))) ?_
                rintro _ _ ⟨_, ⟨rfl, rfl⟩, rfl⟩
                obtain ⟨e2, kk2, dd2, hkd⟩ : ∃ e2 kk2 dd2, kDo kk [putE (keyL (i % 10)) (zStr n), nextE (i + 2)] dd = (e2, kk2, dd2) := ⟨_, _, _, rfl⟩
                rw [hkd] at hf1 hf2
                simp only [hkd]
                dsimp only at hf1 hf2
                subst hf1
                refine KO.loud rfl (OpL.callD rfl (h := num21 _)) ?_
                rintro _ _ ⟨_, ⟨rfl, rfl⟩, rfl⟩
                refine KO.q rfl (q_ne rfl rfl) <| KO.done <| K.no rfl <| K.skip <| K.inBlock <| K.region <| KO.q rfl (q_move rfl) <| KO.q rfl (q_add rfl rfl tN tN) <| KO.q rfl (q_assign rfl) <| KO.done ?_
                exact K.weak tS (fun w h => h.fitD) (ih ⟨(i + 1, kk2, dd2), by show i + 1 ≤ m; omega, hf2⟩ (by show m - (i + 1) < m - i; omega))
              · have him : i = m := by omega
                subst him
                clear ih
                refine K.exit rfl <| K.seq <| K.region <| KO.q rfl (q_move rfl) <| KO.q rfl (q_assign rfl) <| KO.done <| K.seq <| K.seq <| K.region <| KO.q rfl (q_move rfl) <| KO.q rfl (q_gt rfl rfl) ?_
                refine KO.done ?_
                refine K.dcond (s := 82) rfl (fun g82 => ?_) (fun g82 => ?_)
                · refine K.region <| KO.q rfl (q_assign rfl) <| KO.done <| K.seq <| K.region <| KO.q rfl (q_move rfl) <| KO.loud rfl (OpL.callD rfl (h := ks_OpenG p dd hgo.live.wf (by rw [hgo.live.ic.len]; decide) tO (by rw [gone_open hgo]))) ?_
                  rintro _ _ ⟨_, ⟨t, rfl, rfl⟩, rfl⟩
                  rw [gone_open hgo]
                  refine KO.q rfl (q_move rfl) <| KO.q rfl (q_extract rfl rfl) <| KO.q rfl (q_extract rfl rfl) <| KO.q rfl (q_assign rfl) <| KO.q rfl (q_assign rfl) <| KO.done <| K.seq <| K.region <| KO.q rfl (q_move rfl) <| KO.loud rfl (OpL.callD rfl (h := num21 _)) ?_
                  rintro _ _ ⟨_, ⟨rfl, rfl⟩, rfl⟩
                  refine KO.q rfl (q_eq rfl rfl) <| KO.q rfl (q_move rfl) ?_
                  refine KO.dsplit 91 rfl (fun g91 => ?_) (fun g91 => ?_)
                  · refine KO.q rfl (q_move rfl) <| KO.q rfl (q_pnn Tryz.underlying36 rfl rfl) <| KO.q rfl (q_pickT rfl rfl) <| KO.q rfl (q_move rfl) ?_
                    refine KO.split 95 rfl (fun g95 => ?_) (fun g95 => ?_)
                    · refine KO.q rfl (q_move rfl) <| KO.loud rfl (OpL.callD rfl (h := ks_StateX s p kk hokk)) ?_
                      rintro _ _ ⟨_, ⟨sz, rfl, hst, hgd, rfl⟩, rfl⟩
                      have hszok := Sz.ok_of hgd.sm hgd.room hgd.cap
                      refine KO.q rfl (q_move rfl) <| KO.loud rfl (OpL.callD rfl (h := ks_StateX t p kk hokk)) ?_
                      rintro _ _ ⟨_, ⟨sz2, rfl, hst2, hgd2, rfl⟩, rfl⟩
                      have hsz2ok := Sz.ok_of hgd2.sm hgd2.room hgd2.cap
                      refine KO.loud rfl (OpL.callD rfl (h := ref_SameState sz sz2 hszok)) ?_
                      rintro _ _ ⟨_, ⟨rfl, rfl⟩, rfl⟩
                      rw [decide_eq_true (show sz.st = sz2.st by rw [hst, hst2])]
                      refine KO.q rfl (q_pickT rfl rfl) <| KO.q rfl (q_move rfl) ?_
                      refine KO.split 102 rfl (fun g102 => ?_) (fun g102 => ?_)
                      · refine KO.q rfl (q_move rfl) <| KO.loud rfl (OpL.callD rfl (h := ks_StateX t p kk hokk)) ?_
                        rintro _ _ ⟨_, ⟨sz3, rfl, hst3, hgd3, rfl⟩, rfl⟩
                        obtain ⟨hn3, _, _⟩ := sz_one1 (hst3.trans hgo.st)
                        refine KO.q rfl (q_fldV Tryz.underlying47 rfl ck_3 rfl rfl) <| KO.q rfl (q_move rfl) <| KO.q rfl (q_add rfl rfl tN tN) <| KO.q rfl (q_eqT rfl rfl ((by rw [hn3]; omega))) <| KO.q rfl (q_pickT rfl rfl) <| KO.q rfl (q_move rfl) <| KO.q rfl (q_move rfl) <| KO.loud rfl (OpL.callD rfl (h := ks_StateX t p kk hokk)) ?_
                        rintro _ _ ⟨_, ⟨sz4, rfl, hst4, hgd4, rfl⟩, rfl⟩
                        obtain ⟨_, hl4, _⟩ := sz_one1 (hst4.trans hgo.st)
                        refine KO.q rfl (q_fldV Tryz.underlying47 rfl ck_45 rfl rfl) <| KO.q rfl (q_len Tryz.underlying45 rfl) <| KO.q rfl (q_eqT rfl rfl ((by rw [hl4]; rfl))) <| KO.q rfl (q_pickT rfl rfl) <| KO.q rfl (q_move rfl) <| KO.q rfl (q_move rfl) <| KO.loud rfl (OpL.callD rfl (h := ks_StateX t p kk hokk)) ?_
                        rintro _ _ ⟨_, ⟨sz5, rfl, hst5, hgd5, rfl⟩, rfl⟩
                        obtain ⟨_, hl5, o5, ho5, hx5⟩ := sz_one1 (hst5.trans hgo.st)
                        refine KO.q rfl (q_fldV Tryz.underlying47 rfl ck_45 rfl rfl) <| KO.q rfl (q_ix (xs := sz5.l) 0 se_45 rfl rfl rfl isF tM rfl tO) <| KO.q rfl (q_fieldE fo_62_3 rfl) <| KO.q rfl (q_ldE (xs := sz5.l) ck_59 rfl isF tM ho5 rfl) <| KO.q rfl (q_len Tryz.underlying59 rfl) <| KO.q rfl (q_move rfl) <| KO.q rfl (q_eqT rfl rfl ((by rw [hx5]; show ((rws keyL (zStr n) (min i 10)).length : Int) = _; rw [rws_len]; omega))) <| KO.q rfl (q_pickT rfl rfl) <| KO.q rfl (q_move rfl) <| KO.q rfl (q_move rfl) ?_
                        refine KO.loud rfl (OpL.callD rfl (h := ks_EpochX t p kk)) ?_
                        rintro _ _ ⟨_, ⟨rfl, rfl⟩, rfl⟩
                        refine KO.q rfl (q_move rfl) <| KO.loud rfl (OpL.callD rfl (h := ks_EpochX s p kk)) ?_
                        rintro _ _ ⟨_, ⟨rfl, rfl⟩, rfl⟩
                        refine KO.q rfl (q_eq rfl rfl) <| KO.q rfl (q_pickT rfl rfl) <| KO.q rfl (q_move rfl) ?_
                        refine KO.dsplit 135 rfl (fun g135 => ?_) (fun g135 => ?_)
                        · refine KO.q rfl (q_move rfl) <| KO.q rfl (q_lt rfl rfl) <| KO.q rfl (q_move rfl) ?_
                          refine KO.dsplit 138 rfl (fun g138 => ?_) (fun g138 => ?_)
                          · refine KO.skip rfl <| KO.skip rfl <| KO.skip rfl <| KO.q rfl (q_pickT rfl rfl) <| KO.q rfl (q_pickT rfl rfl) <| KO.q rfl (q_assign rfl) <| KO.done ?_
                            refine kr1 Tryz.func4 Tryz.results4 rfl (fun w hs => ?_)
                            exact ⟨_, [], rfl, ⟨rfl, rfl⟩, hs.fitD⟩
                          · refine KO.q rfl (q_move rfl) <| KO.loud rfl (OpL.callD rfl (h := ks_EpochX s p kk)) ?_
                            rintro _ _ ⟨_, ⟨rfl, rfl⟩, rfl⟩
                            refine KO.q rfl (q_is (q_gt rfl rfl) (congrArg Value.bool (decide_eq_true (gone_late hgo tO)))) <| KO.q rfl (q_pickF rfl rfl) <| KO.q rfl (q_pickT rfl rfl) <| KO.q rfl (q_assign rfl) <| KO.done ?_
                            refine kr1 Tryz.func4 Tryz.results4 rfl (fun w hs => ?_)
                            exact ⟨_, [], rfl, ⟨rfl, rfl⟩, hs.fitD⟩
                        · exact absurd rfl g135
                      · cases g102
                    · cases g95
                  · exact absurd rfl g91
                · refine K.skip <| K.seq <| K.region <| KO.q rfl (q_move rfl) <| KO.loud rfl (OpL.callD rfl (h := ks_OpenG p dd hgo.live.wf (by rw [hgo.live.ic.len]; decide) tO (by rw [gone_open hgo]))) ?_
                  rintro _ _ ⟨_, ⟨t, rfl, rfl⟩, rfl⟩
                  rw [gone_open hgo]
                  refine KO.q rfl (q_move rfl) <| KO.q rfl (q_extract rfl rfl) <| KO.q rfl (q_extract rfl rfl) <| KO.q rfl (q_assign rfl) <| KO.q rfl (q_assign rfl) <| KO.done <| K.seq <| K.region <| KO.q rfl (q_move rfl) <| KO.loud rfl (OpL.callD rfl (h := num21 _)) ?_
                  rintro _ _ ⟨_, ⟨rfl, rfl⟩, rfl⟩
                  refine KO.q rfl (q_eq rfl rfl) <| KO.q rfl (q_move rfl) ?_
                  refine KO.dsplit 91 rfl (fun g91 => ?_) (fun g91 => ?_)
                  · refine KO.q rfl (q_move rfl) <| KO.q rfl (q_pnn Tryz.underlying36 rfl rfl) <| KO.q rfl (q_pickT rfl rfl) <| KO.q rfl (q_move rfl) ?_
                    refine KO.split 95 rfl (fun g95 => ?_) (fun g95 => ?_)
                    · refine KO.q rfl (q_move rfl) <| KO.loud rfl (OpL.callD rfl (h := ks_StateX s p kk hokk)) ?_
                      rintro _ _ ⟨_, ⟨sz, rfl, hst, hgd, rfl⟩, rfl⟩
                      have hszok := Sz.ok_of hgd.sm hgd.room hgd.cap
                      refine KO.q rfl (q_move rfl) <| KO.loud rfl (OpL.callD rfl (h := ks_StateX t p kk hokk)) ?_
                      rintro _ _ ⟨_, ⟨sz2, rfl, hst2, hgd2, rfl⟩, rfl⟩
                      have hsz2ok := Sz.ok_of hgd2.sm hgd2.room hgd2.cap
                      refine KO.loud rfl (OpL.callD rfl (h := ref_SameState sz sz2 hszok)) ?_
                      rintro _ _ ⟨_, ⟨rfl, rfl⟩, rfl⟩
                      rw [decide_eq_true (show sz.st = sz2.st by rw [hst, hst2])]
                      refine KO.q rfl (q_pickT rfl rfl) <| KO.q rfl (q_move rfl) ?_
                      refine KO.split 102 rfl (fun g102 => ?_) (fun g102 => ?_)
                      · refine KO.q rfl (q_move rfl) <| KO.loud rfl (OpL.callD rfl (h := ks_StateX t p kk hokk)) ?_
                        rintro _ _ ⟨_, ⟨sz3, rfl, hst3, hgd3, rfl⟩, rfl⟩
                        obtain ⟨hn3, _, _⟩ := sz_one1 (hst3.trans hgo.st)
                        refine KO.q rfl (q_fldV Tryz.underlying47 rfl ck_3 rfl rfl) <| KO.q rfl (q_move rfl) <| KO.q rfl (q_add rfl rfl tN tN) <| KO.q rfl (q_eqT rfl rfl ((by rw [hn3]; omega))) <| KO.q rfl (q_pickT rfl rfl) <| KO.q rfl (q_move rfl) <| KO.q rfl (q_move rfl) <| KO.loud rfl (OpL.callD rfl (h := ks_StateX t p kk hokk)) ?_
                        rintro _ _ ⟨_, ⟨sz4, rfl, hst4, hgd4, rfl⟩, rfl⟩
                        obtain ⟨_, hl4, _⟩ := sz_one1 (hst4.trans hgo.st)
                        refine KO.q rfl (q_fldV Tryz.underlying47 rfl ck_45 rfl rfl) <| KO.q rfl (q_len Tryz.underlying45 rfl) <| KO.q rfl (q_eqT rfl rfl ((by rw [hl4]; rfl))) <| KO.q rfl (q_pickT rfl rfl) <| KO.q rfl (q_move rfl) <| KO.q rfl (q_move rfl) <| KO.loud rfl (OpL.callD rfl (h := ks_StateX t p kk hokk)) ?_
                        rintro _ _ ⟨_, ⟨sz5, rfl, hst5, hgd5, rfl⟩, rfl⟩
                        obtain ⟨_, hl5, o5, ho5, hx5⟩ := sz_one1 (hst5.trans hgo.st)
                        refine KO.q rfl (q_fldV Tryz.underlying47 rfl ck_45 rfl rfl) <| KO.q rfl (q_ix (xs := sz5.l) 0 se_45 rfl rfl rfl isF tM rfl tO) <| KO.q rfl (q_fieldE fo_62_3 rfl) <| KO.q rfl (q_ldE (xs := sz5.l) ck_59 rfl isF tM ho5 rfl) <| KO.q rfl (q_len Tryz.underlying59 rfl) <| KO.q rfl (q_move rfl) <| KO.q rfl (q_eqT rfl rfl ((by rw [hx5]; show ((rws keyL (zStr n) (min i 10)).length : Int) = _; rw [rws_len]; omega))) <| KO.q rfl (q_pickT rfl rfl) <| KO.q rfl (q_move rfl) <| KO.q rfl (q_move rfl) ?_
                        refine KO.loud rfl (OpL.callD rfl (h := ks_EpochX t p kk)) ?_
                        rintro _ _ ⟨_, ⟨rfl, rfl⟩, rfl⟩
                        refine KO.q rfl (q_move rfl) <| KO.loud rfl (OpL.callD rfl (h := ks_EpochX s p kk)) ?_
                        rintro _ _ ⟨_, ⟨rfl, rfl⟩, rfl⟩
                        refine KO.q rfl (q_eq rfl rfl) <| KO.q rfl (q_pickT rfl rfl) <| KO.q rfl (q_move rfl) ?_
                        refine KO.dsplit 135 rfl (fun g135 => ?_) (fun g135 => ?_)
                        · refine KO.q rfl (q_move rfl) <| KO.q rfl (q_lt rfl rfl) <| KO.q rfl (q_move rfl) ?_
                          refine KO.dsplit 138 rfl (fun g138 => ?_) (fun g138 => ?_)
                          · refine KO.skip rfl <| KO.skip rfl <| KO.skip rfl <| KO.q rfl (q_pickT rfl rfl) <| KO.q rfl (q_pickT rfl rfl) <| KO.q rfl (q_assign rfl) <| KO.done ?_
                            refine kr1 Tryz.func4 Tryz.results4 rfl (fun w hs => ?_)
                            exact ⟨_, [], rfl, ⟨rfl, rfl⟩, hs.fitD⟩
                          · refine KO.q rfl (q_move rfl) <| KO.loud rfl (OpL.callD rfl (h := ks_EpochX s p kk)) ?_
                            rintro _ _ ⟨_, ⟨rfl, rfl⟩, rfl⟩
                            refine KO.q rfl (q_is (q_gt rfl rfl) (congrArg Value.bool (decide_eq_true (gone_late hgo tO)))) <| KO.q rfl (q_pickF rfl rfl) <| KO.q rfl (q_pickT rfl rfl) <| KO.q rfl (q_assign rfl) <| KO.done ?_
                            refine kr1 Tryz.func4 Tryz.results4 rfl (fun w hs => ?_)
                            exact ⟨_, [], rfl, ⟨rfl, rfl⟩, hs.fitD⟩
                        · exact absurd rfl g135
                      · cases g102
                    · cases g95
                  · exact absurd rfl g91
end Go.Proofs.YtkbhldicnamcdaaGreat.L
