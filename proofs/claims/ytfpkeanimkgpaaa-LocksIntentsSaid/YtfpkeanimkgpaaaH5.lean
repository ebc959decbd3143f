/- Walks: the document's lock: who holds, who waits; lists compared. -/
import Derived.Test.YtfpkeanimkgpaaaH4
namespace Go.Proofs.Ytfpkeanimkgpaaa.L
open Go Go.Proofs
attribute [local irreducible] pv fv pt fz RowF RowO rowP old pure_ elA
set_option maxRecDepth 100000
set_option linter.unusedSimpArgs false
set_option linter.unusedVariables false

theorem isRow_conv {α β : Type} {n : Nat} {enc : α → List Value} {enc' : β → List Value} {hl : ∀ x, (enc x).length = n} {h1 : ∀ x, ∀ v ∈ enc x, v.oneCell' = true} {hl' : ∀ x, (enc' x).length = n} {h1' : ∀ x, ∀ v ∈ enc' x, v.oneCell' = true} {A : HP} {q : Option Addr} {l : List α} (f : α → β) (hf : ∀ x, enc x = enc' (f x)) (h : IsRow A (Kd.flat n enc hl h1) q l) : IsRow A (Kd.flat n enc' hl' h1') q (l.map f) := fun g hh ha => by
  rcases h g hh ha with h | ⟨b, o, c, e, fr, hp, hb, hr⟩
  · exact .inl (by rw [h]; rfl)
  · refine .inr ⟨b, o, c, e, fr, hp, hb, fun i x hx => ?_⟩
    rw [List.getElem?_map] at hx
    cases hi : l[i]? with
    | none => rw [hi] at hx; cases hx
    | some y =>
      rw [hi] at hx
      cases hx
      obtain ⟨cs, hrd, hc⟩ := hr i y hi
      cases hrd
      exact ⟨enc' (f y), rfl, fun j v hv => hc j v (by rw [hf]; exact hv)⟩
def One.held1 (o : One) : Hold := ⟨o.who, o.mode, 0⟩
def atH (l : List Hold) (who : Int) : Int := idxP (fun x => decide (x.who = who)) l
theorem atH_some {l : List Hold} {who : Int} (h : 0 ≤ atH l who) : ∃ (i : Nat) (el : Hold), l[i]? = some el ∧ atH l who = (i : Int) ∧ el.who = who := by
  unfold atH idxP at h ⊢
  cases hf : l.findIdx? (fun x => decide (x.who = who)) with
  | none => rw [hf] at h; exact absurd h (by decide)
  | some i =>
    rw [List.findIdx?_eq_some_iff_getElem] at hf
    obtain ⟨hi, h1, _⟩ := hf
    exact ⟨i, l[i], List.getElem?_eq_getElem hi, rfl, of_decide_eq_true h1⟩
/-- One of the line, told beside the holders. -/
def rh1 (out : List Hold) (e : One) : List Hold := if 0 ≤ atH out e.who then out.set (atH out e.who).toNat { out.getD (atH out e.who).toNat ⟨0, 0, 0⟩ with wants := e.mode } else out ++ [e.wait1]
def Lk.rHolds (k : Lk) : List Hold := k.line.foldl rh1 (k.hold.map One.held1)
theorem rh1_len (out : List Hold) (e : One) : (rh1 out e).length ≤ out.length + 1 := by
  unfold rh1
  split
  · rw [List.length_set]; omega
  · rw [List.length_append]; exact Nat.le_refl _
theorem foldl_take_succ {α β : Type} (f : β → α → β) (z : β) {l : List α} {i : Nat} {x : α} (h : l[i]? = some x) : (l.take (i + 1)).foldl f z = f ((l.take i).foldl f z) x := by
  rw [List.take_add_one, h, List.foldl_append]; rfl
theorem rHolds_len (z : List Hold) : ∀ (l : List One), (l.foldl rh1 z).length ≤ z.length + l.length := fun l => by
  induction l generalizing z with
  | nil => exact Nat.le_refl _
  | cons x l ih =>
    have h1 := ih (rh1 z x)
    have h2 := rh1_len z x
    simp only [List.foldl_cons, List.length_cons]
    omega
theorem rf_findO (e : TypeId) (q : Option Addr) (cap : Nat) (l : List Hold) (who : Int) (hn : l.length ≤ 2000000000) : Fn Try.prog 61 [.slice q l.length cap, .int .i64 who].toArray [RowO Kd.hold e q cap l] (fun r post => r = .int .i64 (atH l who) ∧ post = [RowO Kd.hold e q cap l]) := rf_find Hold.who (fun _ => rfl) (RowO Kd.hold e q cap l) q cap l who isO (by omega)
set_option maxHeartbeats 1600000 in
theorem rf_Holds (b : Nat) (q1 : Option Addr) (c1 : Nat) (q2 : Option Addr) (c2 : Nat) (k : Lk) (hl : k.hold.length + k.line.length ≤ 1000000000) : Fn Try.prog 34 [.pointer (some ⟨b, 0, none⟩)].toArray (RkL b q1 c1 q2 c2 k) (fun r post => ∃ po co, r = .slice po k.rHolds.length co ∧ post = RowO Kd.hold 60 po co k.rHolds :: RkL b q1 c1 q2 c2 k) := by
  refine Fn.enter (N := 55) Try.func34 rfl Try.ntmps34 (by kernel_rfl) rfl (fun ρ L => ?_)
  refine K.seq ?_
  refine K.region ?_
  refine KO.q rfl (q_assign rfl) ?_
  refine KO.done ?_
  refine K.seq ?_
  refine K.region ?_
  refine KO.q rfl (q_move rfl) ?_
  refine KO.q rfl (q_nilCheck rfl) ?_
  refine KO.q rfl (q_field fo_52_0 rfl) ?_
  refine KO.q rfl (q_load1D ck_50 rfl) ?_
  refine KO.st (fun w h => rowO_nil (k := Kd.hold) 60 h) ?_
  refine KO.loud rfl (l_append Kd.hold (ys := k.hold.map One.held1) se_50 Try.underlying50 ⟨_, ze_60, rfl⟩ (by decide) rfl rfl (by repeat (first | exact Pick.here | apply Pick.there)) (isRow_conv One.held1 (fun _ => rfl) (isO (k := Kd.oneH) (p := q1) (xs := k.hold))) (by repeat (first | exact List.Mem.head _ | apply List.Mem.tail)) rfl (by rw [List.length_map]) (by rw [List.length_map]; show (2 * (0 + k.hold.length) + 768) * 24 ≤ _; omega)) ?_
  rintro _ _ ⟨pa, ca, rfl, rfl⟩
  rw [List.nil_append]
  refine KO.q rfl (q_assign rfl) ?_
  refine KO.done ?_
  refine K.seq <| K.seq ?_
  refine K.region ?_
  refine KO.q rfl (q_assign rfl) ?_
  refine KO.done ?_
  refine K.block ?_
  refine K.rounds2 (ι := { s : Nat × Option Addr × Nat // s.1 ≤ k.line.length }) (fun s => [(4, .int .i64 s.1.1), (3, .slice s.1.2.1 ((k.line.take s.1.1).foldl rh1 (k.hold.map One.held1)).length s.1.2.2), (0, .pointer (some ⟨b, 0, none⟩))]) (fun s => RowO Kd.hold 60 s.1.2.1 s.1.2.2 ((k.line.take s.1.1).foldl rh1 (k.hold.map One.held1)) :: RkL b q1 c1 q2 c2 k ++ L) (fun s => k.line.length - s.1.1) ⟨(0, pa, ca), Nat.zero_le _⟩ (by repeat (first | exact Env.sub_nil _ | refine Env.sub_cons rfl ?_)) (fun w h => h.fitD) (fun s ih => ?_)
  obtain ⟨⟨i, po, co⟩, hi⟩ := s
  dsimp only at hi ⊢
  obtain ⟨out, hout⟩ : ∃ out, out = (k.line.take i).foldl rh1 (k.hold.map One.held1) := ⟨_, rfl⟩
  have hol : out.length ≤ 1000000000 := by
    rw [hout]
    have h1 := rHolds_len (k.hold.map One.held1) (k.line.take i)
    rw [List.length_map, List.length_take] at h1
    omega
  rw [← hout]
  refine K.seq <| K.seq ?_
  refine K.region ?_
  refine KO.q rfl (q_move rfl) ?_
  refine KO.q rfl (q_move rfl) ?_
  refine KO.q rfl (q_nilCheck rfl) ?_
  refine KO.q rfl (q_field fo_52_1 rfl) ?_
  refine KO.q rfl (q_load1D ck_50 rfl) ?_
  refine KO.q rfl (q_len Try.underlying50 rfl) ?_
  refine KO.q rfl (q_lt rfl rfl) ?_
  refine KO.done ?_
  refine K.dcond (s := 17) rfl (fun g17 => ?_) (fun g17 => ?_)
  · obtain ⟨e, he⟩ : ∃ e, k.line[i]? = some e := ⟨_, List.getElem?_eq_getElem (by omega)⟩
    have hm := foldl_take_succ rh1 (k.hold.map One.held1) he
    rw [← hout] at hm
    refine K.skip <| K.seq <| K.block <| K.seq ?_
    refine K.region ?_
    refine KO.q rfl (q_move rfl) ?_
    refine KO.q rfl (q_move rfl) ?_
    refine KO.q rfl (q_nilCheck rfl) ?_
    refine KO.q rfl (q_field fo_52_1 rfl) ?_
    refine KO.q rfl (q_load1D ck_50 rfl) ?_
    refine KO.q rfl (q_move rfl) ?_
    refine KO.q rfl (q_ix (xs := k.line) i se_50 rfl rfl rfl isO (by repeat (first | exact List.Mem.head _ | apply List.Mem.tail)) rfl (by omega)) ?_
    refine KO.q rfl (q_fieldE fo_60_0 rfl) ?_
    refine KO.q rfl (q_ldE (xs := k.line) (enc := One.lineC) ck_3 rfl isO (by repeat (first | exact List.Mem.head _ | apply List.Mem.tail)) he rfl) ?_
    refine KO.loud rfl (OpL.callD rfl (h := rf_findO 60 po co out e.who (by omega))) ?_
    rintro _ _ ⟨_, ⟨rfl, rfl⟩, rfl⟩
    refine KO.q rfl (q_assign rfl) ?_
    refine KO.done ?_
    refine K.seq ?_
    refine K.region ?_
    refine KO.q rfl (q_move rfl) ?_
    refine KO.q rfl (q_ge rfl rfl) ?_
    refine KO.done ?_
    refine K.dcond (s := 31) rfl (fun g31 => ?_) (fun g31 => ?_)
    · obtain ⟨j, ho, hj, hji, hw⟩ := atH_some g31
      have hjl := (List.getElem?_eq_some_iff.1 hj).1
      have hz : (k.line.take (i + 1)).foldl rh1 (k.hold.map One.held1) = out.set j { ho with wants := e.mode } := by
        rw [hm]; unfold rh1; rw [if_pos g31, hji, Int.toNat_natCast, List.getD_eq_getElem?_getD, hj]; rfl
      have hzl : ((k.line.take (i + 1)).foldl rh1 (k.hold.map One.held1)).length = out.length := by rw [hz, List.length_set]
      refine K.region ?_
      refine KO.q rfl (q_move rfl) ?_
      refine KO.q rfl (q_move rfl) ?_
      refine KO.q rfl (q_move rfl) ?_
      refine KO.q rfl (q_nilCheck rfl) ?_
      refine KO.q rfl (q_field fo_52_1 rfl) ?_
      refine KO.q rfl (q_load1D ck_50 rfl) ?_
      refine KO.q rfl (q_move rfl) ?_
      refine KO.q rfl (q_ix (xs := k.line) i se_50 rfl rfl rfl isO (by repeat (first | exact List.Mem.head _ | apply List.Mem.tail)) rfl (by omega)) ?_
      refine KO.q rfl (q_fieldE fo_60_2 rfl) ?_
      refine KO.q rfl (q_ldE (xs := k.line) (enc := One.lineC) ck_3 rfl isO (by repeat (first | exact List.Mem.head _ | apply List.Mem.tail)) he rfl) ?_
      refine KO.q rfl (q_ix (xs := out) j se_50 rfl rfl hji isO (by repeat (first | exact List.Mem.head _ | apply List.Mem.tail)) rfl hjl) ?_
      refine KO.q rfl (q_fieldE fo_60_2 rfl) ?_
      refine KO.loudN rfl (l_storeE (el := ho) { ho with wants := e.mode } ck_3 rfl rfl rfl (by repeat (first | exact Pick.here | apply Pick.there)) hj (by decide) rfl) ?_
      rintro _ _ ⟨rfl, rfl⟩
      refine KO.done ?_
      refine K.inBlock ?_
      refine K.region ?_
      refine KO.q rfl (q_move rfl) ?_
      refine KO.q rfl (q_add rfl rfl (by first | omega | (simp; omega)) (by first | omega | (simp; omega))) ?_
      refine KO.q rfl (q_assign rfl) ?_
      refine KO.done ?_
      exact K.weak (E' := [(4, .int .i64 ((i + 1 : Nat) : Int)), (3, .slice po ((k.line.take (i + 1)).foldl rh1 (k.hold.map One.held1)).length co), (0, .pointer (some ⟨b, 0, none⟩))]) (by rw [hzl]; exact (by repeat (first | exact Env.sub_nil _ | refine Env.sub_cons rfl ?_))) (fun w h => by rw [hz]; exact h.fitD) (ih ⟨(i + 1, po, co), by show i + 1 ≤ _; omega⟩ (by show k.line.length - (i + 1) < k.line.length - i; omega))
    · have hz : (k.line.take (i + 1)).foldl rh1 (k.hold.map One.held1) = out ++ [e.wait1] := by rw [hm]; unfold rh1; rw [if_neg g31]
      refine K.region ?_
      refine KO.q rfl (q_move rfl) ?_
      refine KO.q rfl (q_move rfl) ?_
      refine KO.q rfl (q_nilCheck rfl) ?_
      refine KO.q rfl (q_field fo_52_1 rfl) ?_
      refine KO.q rfl (q_load1D ck_50 rfl) ?_
      refine KO.q rfl (q_move rfl) ?_
      refine KO.q rfl (q_ix (xs := k.line) i se_50 rfl rfl rfl isO (by repeat (first | exact List.Mem.head _ | apply List.Mem.tail)) rfl (by omega)) ?_
      refine KO.q rfl (q_ldEN (xs := k.line) (enc := One.lineC) ck_60 rfl isO (by repeat (first | exact List.Mem.head _ | apply List.Mem.tail)) he) ?_
      refine KO.loud rfl (l_slice1 sz_50_1 rfl rfl ⟨rfl, rfl, rfl⟩) ?_
      rintro _ _ ⟨b52, rfl, rfl⟩
      refine KO.loud rfl (l_append Kd.hold (ys := [e.wait1]) se_50 Try.underlying50 ⟨_, ze_60, rfl⟩ (by decide) rfl rfl (by repeat (first | exact Pick.here | apply Pick.there)) (isP (enc := Hold.cells) (x := e.wait1)) (by repeat (first | exact List.Mem.head _ | apply List.Mem.tail)) rfl rfl (by show (2 * (out.length + 1) + 768) * 24 ≤ _; omega)) ?_
      rintro _ _ ⟨pn, dn, rfl, rfl⟩
      refine KO.q rfl (q_assign rfl) ?_
      refine KO.done ?_
      refine K.inBlock ?_
      refine K.region ?_
      refine KO.q rfl (q_move rfl) ?_
      refine KO.q rfl (q_add rfl rfl (by first | omega | (simp; omega)) (by first | omega | (simp; omega))) ?_
      refine KO.q rfl (q_assign rfl) ?_
      refine KO.done ?_
      exact K.weak (E' := [(4, .int .i64 ((i + 1 : Nat) : Int)), (3, .slice pn ((k.line.take (i + 1)).foldl rh1 (k.hold.map One.held1)).length dn), (0, .pointer (some ⟨b, 0, none⟩))]) (by rw [hz]; exact (by repeat (first | exact Env.sub_nil _ | refine Env.sub_cons rfl ?_))) (fun w h => by rw [hz]; exact h.fitD) (ih ⟨(i + 1, pn, dn), by show i + 1 ≤ _; omega⟩ (by show k.line.length - (i + 1) < k.line.length - i; omega))
  · obtain rfl : i = k.line.length := by omega
    rw [List.take_length] at hout
    refine K.exit rfl ?_
    refine K.seq ?_
    refine K.region ?_
    refine KO.q rfl (q_move rfl) ?_
    refine KO.q rfl (q_assign rfl) ?_
    refine KO.done ?_
    refine K.ret (fn := Try.f34) Try.func34 (fun a w hk hs => res1 Try.results34 hk rfl) (fun w hs => ?_)
    exact ⟨_, RowO Kd.hold 60 po co out :: RkL b q1 c1 q2 c2 k, rfl, ⟨po, co, by rw [hout]; rfl, by rw [hout]; rfl⟩, hs.fitD⟩
/-- A number put into a row that rises. -/
def insI : List Int → Int → List Int
  | [], n => [n]
  | x :: l, n => if x < n then x :: insI l n else if x = n then x :: l else n :: x :: l
theorem insI_at {n : Int} : ∀ {l : List Int} {i : Nat}, i ≤ l.length → (l.take i).all (fun x => decide (x < n)) = true → (∀ x, l[i]? = some x → ¬ x < n) → insI l n = if l[i]? = some n then l else l.take i ++ [n] ++ l.drop i
  | [], 0, _, _, _ => rfl
  | x :: l, 0, _, _, h => by
    have hx : ¬ x < n := h x rfl
    rw [insI, if_neg hx]
    by_cases he : x = n
    · rw [if_pos he, if_pos (by rw [he]; rfl)]
    · rw [if_neg he, if_neg (by simpa using he)]; rfl
  | x :: l, i + 1, hi, ha, h => by
    simp only [List.take_succ_cons, List.all_cons, Bool.and_eq_true, decide_eq_true_eq] at ha
    rw [insI, if_pos ha.1, insI_at (l := l) (i := i) (by simpa using hi) ha.2 (fun y hy => h y hy)]
    simp only [List.getElem?_cons_succ, List.take_succ_cons, List.drop_succ_cons, List.cons_append]
    split <;> rfl
theorem insI_len : ∀ (l : List Int) (n : Int), (insI l n).length ≤ l.length + 1
  | [], _ => Nat.le_refl _
  | x :: l, n => by
    have := insI_len l n
    rw [insI]
    split
    · simp only [List.length_cons]; omega
    · split <;> simp only [List.length_cons] <;> omega
set_option maxHeartbeats 1600000 in
theorem rf_insert (q : Option Addr) (cap : Nat) (l : List Int) (n : Int) (hl : l.length ≤ 1000000000) : Fn Try.prog 71 [.slice q l.length cap, .int .i64 n].toArray [RowO (Kd.int .i64) 3 q cap l] (fun r post => ∃ q' c', r = .slice q' (insI l n).length c' ∧ post = [RowO (Kd.int .i64) 3 q' c' (insI l n)]) := by
  refine Fn.enter (N := 44) Try.func71 rfl Try.ntmps71 (by kernel_rfl) rfl (fun ρ L => ?_)
  refine K.seq ?_
  refine K.fact (fun w h => rowO_cap (e := 3) (k := Kd.int .i64) (p := q) (cap := cap) (xs := l) (by repeat (first | exact List.Mem.head _ | apply List.Mem.tail)) w h) (fun hc => ?_)
  refine K.region ?_
  refine KO.q rfl (q_assign rfl) ?_
  refine KO.done ?_
  refine K.seq ?_
  refine K.region ?_
  refine KO.q rfl (q_assign rfl) ?_
  refine KO.done ?_
  refine K.seq <| K.block ?_
  refine K.rloop (ι := { i : Nat // i ≤ l.length ∧ (l.take i).all (fun x => decide (x < n)) = true }) (fun x => [(5, .int .i64 x.1), (0, .slice q l.length cap), (1, .int .i64 n)]) (fun x => l.length - x.1) ⟨0, Nat.zero_le _, rfl⟩ (by repeat (first | exact Env.sub_nil _ | refine Env.sub_cons rfl ?_)) (fun x ih => ?_)
  obtain ⟨i, hi, hz⟩ := x
  dsimp only at hi hz ⊢
  refine K.seq <| K.seq ?_
  refine K.region ?_
  refine KO.q rfl (q_move rfl) ?_
  refine KO.q rfl (q_move rfl) ?_
  refine KO.q rfl (q_len Try.underlying36 rfl) ?_
  refine KO.q rfl (q_lt rfl rfl) ?_
  refine KO.q rfl (q_move rfl) ?_
  refine KO.dsplit 10 rfl (fun g10 => ?_) (fun g10 => ?_)
  · obtain ⟨e, he⟩ : ∃ e, l[i]? = some e := ⟨_, List.getElem?_eq_getElem (by omega)⟩
    refine KO.q rfl (q_move rfl) ?_
    refine KO.q rfl (q_move rfl) ?_
    refine KO.q rfl (q_ix i se_36 rfl rfl rfl isO (by repeat (first | exact List.Mem.head _ | apply List.Mem.tail)) rfl (by omega)) ?_
    refine KO.q rfl (q_ldE ck_3 rfl isO (by repeat (first | exact List.Mem.head _ | apply List.Mem.tail)) he rfl) ?_
    refine KO.q rfl (q_move rfl) ?_
    refine KO.q rfl (q_lt rfl rfl) ?_
    refine KO.q rfl (q_pickT rfl rfl) ?_
    refine KO.done ?_
    refine K.dcond (s := 17) rfl (fun g17 => ?_) (fun g17 => ?_)
    · refine K.skip <| K.block ?_
      refine K.region ?_
      refine KO.q rfl (q_move rfl) ?_
      refine KO.q rfl (q_add rfl rfl (by first | omega | (simp; omega)) (by first | omega | (simp; omega))) ?_
      refine KO.q rfl (q_assign rfl) ?_
      refine KO.done ?_
      refine K.inBlock ?_
      exact K.subE (by repeat (first | exact Env.sub_nil _ | refine Env.sub_cons rfl ?_)) (ih ⟨i + 1, by omega, by rw [all_take_succ he, hz, decide_eq_true g17]; rfl⟩ (by show l.length - (i + 1) < l.length - i; omega))
    · have hins := insI_at hi hz (fun x hx => by rw [he] at hx; cases hx; exact g17)
      refine K.exit rfl ?_
      refine K.seq <| K.seq ?_
      refine K.region ?_
      refine KO.q rfl (q_move rfl) ?_
      refine KO.q rfl (q_move rfl) ?_
      refine KO.q rfl (q_len Try.underlying36 rfl) ?_
      refine KO.q rfl (q_lt rfl rfl) ?_
      refine KO.q rfl (q_move rfl) ?_
      refine KO.dsplit 24 rfl (fun g24 => ?_) (fun g24 => ?_)
      · refine KO.q rfl (q_move rfl) ?_
        refine KO.q rfl (q_move rfl) ?_
        refine KO.q rfl (q_ix i se_36 rfl rfl rfl isO (by repeat (first | exact List.Mem.head _ | apply List.Mem.tail)) rfl (by omega)) ?_
        refine KO.q rfl (q_ldE ck_3 rfl isO (by repeat (first | exact List.Mem.head _ | apply List.Mem.tail)) he rfl) ?_
        refine KO.q rfl (q_move rfl) ?_
        refine KO.q rfl (q_eq rfl rfl) ?_
        refine KO.q rfl (q_pickT rfl rfl) ?_
        refine KO.done ?_
        refine K.dcond (s := 31) rfl (fun g31 => ?_) (fun g31 => ?_)
        · rw [if_pos (by rw [he, g31])] at hins
          refine K.seq ?_
          refine K.region ?_
          refine KO.q rfl (q_move rfl) ?_
          refine KO.q rfl (q_assign rfl) ?_
          refine KO.done ?_
          refine K.ret (fn := Try.f71) Try.func71 (fun a w hk hs => res1 Try.results71 hk rfl) (fun w hs => ?_)
          rw [hins]
          exact ⟨_, [RowO (Kd.int .i64) 3 q cap l], rfl, ⟨q, cap, rfl, rfl⟩, hs.fitD⟩
        · rw [if_neg (by rw [he]; simpa using g31)] at hins
          refine K.skip <| K.seq ?_
          refine K.drawS [RowO (Kd.int .i64) 3 q cap l] (fun _ h => h.subD) mixed ?_
          refine D.q 0 rfl (by kernel_rfl) (by kernel_rfl) (q_move rfl) (fun _ h => h.subD) ?_
          refine D.q 1 rfl (by kernel_rfl) (by kernel_rfl) (q_move rfl) (fun _ h => h.subD) ?_
          refine D.q 2 rfl (by kernel_rfl) (by kernel_rfl) (q_cutH se_36 rfl rfl (by first | omega | (simp; omega)) (by first | omega | (simp; omega))) (fun _ h => h.subD) ?_
          refine D.q 4 rfl (by kernel_rfl) (by kernel_rfl) (q_move rfl) (fun _ h => h.subD) ?_
          refine D.q 7 rfl (by kernel_rfl) (by kernel_rfl) (q_move rfl) (fun _ h => h.subD) ?_
          refine D.q 8 rfl (by kernel_rfl) (by kernel_rfl) (q_move rfl) (fun _ h => h.subD) ?_
          refine D.q 9 rfl (by kernel_rfl) (by kernel_rfl) (q_cutL se_36 rfl rfl (by first | omega | (simp; omega)) (by first | omega | (simp; omega)) (by first | omega | (simp; omega))) (fun _ h => h.subD) ?_
          refine D.st (fun w h => rowO_nil (k := Kd.int .i64) 3 h) ?_
          refine D.all (rs := [3, 5]) (by kernel_rfl) rfl (DAll.cons rfl (by kernel_rfl) (l_append (Kd.int .i64) (ys := l.take i) se_36 Try.underlying36 ⟨_, ze_3, rfl⟩ (by decide) rfl rfl (by repeat (first | exact Pick.here | apply Pick.there)) (isRow_take isO i) (by repeat (first | exact List.Mem.head _ | apply List.Mem.tail)) rfl (by rw [List.length_take]; omega) (by rw [List.length_take]; show (2 * (0 + _) + 768) * 8 ≤ _; omega)) (.inr (by rintro _ _ ⟨pa, ca, rfl, rfl⟩ w h; exact h.subD)) rfl ?_ (DAll.cons rfl (by kernel_rfl) (l_slice sz_36_1 rfl (by repeat (first | exact Fill.nil | (apply Fill.cons; rfl; rfl; rfl) | exact SetN.nil | apply SetN.cons | exact SetAt.here | apply SetAt.there))) (.inr (by rintro _ _ ⟨b38, rfl, rfl⟩ w h; exact h.subD)) rfl ?_ DAll.nil))
          · rintro _ _ ⟨pa, ca, rfl, rfl⟩
            refine D.all (rs := [5]) (by kernel_rfl) rfl (DAll.cons rfl (by kernel_rfl) (l_slice sz_36_1 rfl (by repeat (first | exact Fill.nil | (apply Fill.cons; rfl; rfl; rfl) | exact SetN.nil | apply SetN.cons | exact SetAt.here | apply SetAt.there))) (.inr (by rintro _ _ ⟨b38, rfl, rfl⟩ w h; exact h.subD)) rfl ?_ DAll.nil)
            rintro _ _ ⟨b38, rfl, rfl⟩
            refine D.all (rs := [6]) (by kernel_rfl) rfl (DAll.cons rfl (by kernel_rfl) (l_append (Kd.int .i64) (ys := [n]) se_36 Try.underlying36 ⟨_, ze_3, rfl⟩ (by decide) rfl rfl (by repeat (first | exact Pick.here | apply Pick.there)) isP (by repeat (first | exact List.Mem.head _ | apply List.Mem.tail)) rfl rfl (by rw [List.nil_append, List.length_take]; show (2 * (_ + 1) + 768) * 8 ≤ _; omega)) (.inr (by rintro _ _ ⟨pb, cb, rfl, rfl⟩ w h; exact h.subD)) rfl ?_ DAll.nil)
            rintro _ _ ⟨pb, cb, rfl, rfl⟩
            refine D.all (rs := [10]) (by kernel_rfl) rfl (DAll.cons rfl (by kernel_rfl) (l_append (Kd.int .i64) (ys := l.drop i) se_36 Try.underlying36 ⟨_, ze_3, rfl⟩ (by decide) rfl rfl (by repeat (first | exact Pick.here | apply Pick.there)) (isO_cut i) (by repeat (first | exact List.Mem.head _ | apply List.Mem.tail)) rfl (by rw [List.length_drop]; rfl) (by rw [List.nil_append, List.length_append, List.length_take, List.length_drop]; show (2 * (_ + 1 + _) + 768) * 8 ≤ _; omega)) (.inr (by rintro _ _ ⟨pn, dn, rfl, rfl⟩ w h; exact h.subD)) rfl ?_ DAll.nil)
            rintro _ _ ⟨pn, dn, rfl, rfl⟩
            refine D.q 11 rfl (by kernel_rfl) (by kernel_rfl) (q_assign rfl) (fun _ h => h.subD) ?_
            refine D.done (by kernel_rfl) ?_
            refine K.ret (fn := Try.f71) Try.func71 (fun a w hk hs => res1 Try.results71 hk rfl) (fun w hs => ?_)
            rw [hins]
            exact ⟨_, [RowO (Kd.int .i64) 3 pn dn (l.take i ++ [n] ++ l.drop i)], rfl, ⟨pn, dn, rfl, rfl⟩, hs.fitD⟩
          · rintro _ _ ⟨b38, rfl, rfl⟩
            refine D.st (fun w h => rowO_nil (k := Kd.int .i64) 3 h) ?_
            refine D.all (rs := [3]) (by kernel_rfl) rfl (DAll.cons rfl (by kernel_rfl) (l_append (Kd.int .i64) (ys := l.take i) se_36 Try.underlying36 ⟨_, ze_3, rfl⟩ (by decide) rfl rfl (by repeat (first | exact Pick.here | apply Pick.there)) (isRow_take isO i) (by repeat (first | exact List.Mem.head _ | apply List.Mem.tail)) rfl (by rw [List.length_take]; omega) (by rw [List.length_take]; show (2 * (0 + _) + 768) * 8 ≤ _; omega)) (.inr (by rintro _ _ ⟨pa, ca, rfl, rfl⟩ w h; exact h.subD)) rfl ?_ DAll.nil)
            rintro _ _ ⟨pa, ca, rfl, rfl⟩
            refine D.all (rs := [6]) (by kernel_rfl) rfl (DAll.cons rfl (by kernel_rfl) (l_append (Kd.int .i64) (ys := [n]) se_36 Try.underlying36 ⟨_, ze_3, rfl⟩ (by decide) rfl rfl (by repeat (first | exact Pick.here | apply Pick.there)) isP (by repeat (first | exact List.Mem.head _ | apply List.Mem.tail)) rfl rfl (by rw [List.nil_append, List.length_take]; show (2 * (_ + 1) + 768) * 8 ≤ _; omega)) (.inr (by rintro _ _ ⟨pb, cb, rfl, rfl⟩ w h; exact h.subD)) rfl ?_ DAll.nil)
            rintro _ _ ⟨pb, cb, rfl, rfl⟩
            refine D.all (rs := [10]) (by kernel_rfl) rfl (DAll.cons rfl (by kernel_rfl) (l_append (Kd.int .i64) (ys := l.drop i) se_36 Try.underlying36 ⟨_, ze_3, rfl⟩ (by decide) rfl rfl (by repeat (first | exact Pick.here | apply Pick.there)) (isO_cut i) (by repeat (first | exact List.Mem.head _ | apply List.Mem.tail)) rfl (by rw [List.length_drop]; rfl) (by rw [List.nil_append, List.length_append, List.length_take, List.length_drop]; show (2 * (_ + 1 + _) + 768) * 8 ≤ _; omega)) (.inr (by rintro _ _ ⟨pn, dn, rfl, rfl⟩ w h; exact h.subD)) rfl ?_ DAll.nil)
            rintro _ _ ⟨pn, dn, rfl, rfl⟩
            refine D.q 11 rfl (by kernel_rfl) (by kernel_rfl) (q_assign rfl) (fun _ h => h.subD) ?_
            refine D.done (by kernel_rfl) ?_
            refine K.ret (fn := Try.f71) Try.func71 (fun a w hk hs => res1 Try.results71 hk rfl) (fun w hs => ?_)
            rw [hins]
            exact ⟨_, [RowO (Kd.int .i64) 3 pn dn (l.take i ++ [n] ++ l.drop i)], rfl, ⟨pn, dn, rfl, rfl⟩, hs.fitD⟩
      · exact absurd ((List.getElem?_eq_some_iff.1 he).1) (by omega)
  · have hins := insI_at hi hz (fun x hx => by rw [List.getElem?_eq_none (by omega)] at hx; cases hx)
    have hno : l[i]? = none := List.getElem?_eq_none (by omega)
    refine KO.skip rfl ?_
    refine KO.skip rfl ?_
    refine KO.skip rfl ?_
    refine KO.skip rfl ?_
    refine KO.skip rfl ?_
    refine KO.skip rfl ?_
    refine KO.q rfl (q_pickF rfl rfl) ?_
    refine KO.done ?_
    refine K.no rfl ?_
    refine K.exit rfl ?_
    refine K.seq <| K.seq ?_
    refine K.region ?_
    refine KO.q rfl (q_move rfl) ?_
    refine KO.q rfl (q_move rfl) ?_
    refine KO.q rfl (q_len Try.underlying36 rfl) ?_
    refine KO.q rfl (q_lt rfl rfl) ?_
    refine KO.q rfl (q_move rfl) ?_
    refine KO.dsplit 24 rfl (fun g24 => ?_) (fun g24 => ?_)
    · exact absurd g24 (by omega)
    · refine KO.skip rfl ?_
      refine KO.skip rfl ?_
      refine KO.skip rfl ?_
      refine KO.skip rfl ?_
      refine KO.skip rfl ?_
      refine KO.skip rfl ?_
      refine KO.q rfl (q_pickF rfl rfl) ?_
      refine KO.done ?_
      refine K.no rfl ?_
      refine K.skip <| K.seq ?_
      rw [if_neg (by rw [hno]; simp)] at hins
      refine K.drawS [RowO (Kd.int .i64) 3 q cap l] (fun _ h => h.subD) mixed ?_
      refine D.q 0 rfl (by kernel_rfl) (by kernel_rfl) (q_move rfl) (fun _ h => h.subD) ?_
      refine D.q 1 rfl (by kernel_rfl) (by kernel_rfl) (q_move rfl) (fun _ h => h.subD) ?_
      refine D.q 2 rfl (by kernel_rfl) (by kernel_rfl) (q_cutH se_36 rfl rfl (by first | omega | (simp; omega)) (by first | omega | (simp; omega))) (fun _ h => h.subD) ?_
      refine D.q 4 rfl (by kernel_rfl) (by kernel_rfl) (q_move rfl) (fun _ h => h.subD) ?_
      refine D.q 7 rfl (by kernel_rfl) (by kernel_rfl) (q_move rfl) (fun _ h => h.subD) ?_
      refine D.q 8 rfl (by kernel_rfl) (by kernel_rfl) (q_move rfl) (fun _ h => h.subD) ?_
      refine D.q 9 rfl (by kernel_rfl) (by kernel_rfl) (q_cutL se_36 rfl rfl (by first | omega | (simp; omega)) (by first | omega | (simp; omega)) (by first | omega | (simp; omega))) (fun _ h => h.subD) ?_
      refine D.st (fun w h => rowO_nil (k := Kd.int .i64) 3 h) ?_
      refine D.all (rs := [3, 5]) (by kernel_rfl) rfl (DAll.cons rfl (by kernel_rfl) (l_append (Kd.int .i64) (ys := l.take i) se_36 Try.underlying36 ⟨_, ze_3, rfl⟩ (by decide) rfl rfl (by repeat (first | exact Pick.here | apply Pick.there)) (isRow_take isO i) (by repeat (first | exact List.Mem.head _ | apply List.Mem.tail)) rfl (by rw [List.length_take]; omega) (by rw [List.length_take]; show (2 * (0 + _) + 768) * 8 ≤ _; omega)) (.inr (by rintro _ _ ⟨pa, ca, rfl, rfl⟩ w h; exact h.subD)) rfl ?_ (DAll.cons rfl (by kernel_rfl) (l_slice sz_36_1 rfl (by repeat (first | exact Fill.nil | (apply Fill.cons; rfl; rfl; rfl) | exact SetN.nil | apply SetN.cons | exact SetAt.here | apply SetAt.there))) (.inr (by rintro _ _ ⟨b38, rfl, rfl⟩ w h; exact h.subD)) rfl ?_ DAll.nil))
      · rintro _ _ ⟨pa, ca, rfl, rfl⟩
        refine D.all (rs := [5]) (by kernel_rfl) rfl (DAll.cons rfl (by kernel_rfl) (l_slice sz_36_1 rfl (by repeat (first | exact Fill.nil | (apply Fill.cons; rfl; rfl; rfl) | exact SetN.nil | apply SetN.cons | exact SetAt.here | apply SetAt.there))) (.inr (by rintro _ _ ⟨b38, rfl, rfl⟩ w h; exact h.subD)) rfl ?_ DAll.nil)
        rintro _ _ ⟨b38, rfl, rfl⟩
        refine D.all (rs := [6]) (by kernel_rfl) rfl (DAll.cons rfl (by kernel_rfl) (l_append (Kd.int .i64) (ys := [n]) se_36 Try.underlying36 ⟨_, ze_3, rfl⟩ (by decide) rfl rfl (by repeat (first | exact Pick.here | apply Pick.there)) isP (by repeat (first | exact List.Mem.head _ | apply List.Mem.tail)) rfl rfl (by rw [List.nil_append, List.length_take]; show (2 * (_ + 1) + 768) * 8 ≤ _; omega)) (.inr (by rintro _ _ ⟨pb, cb, rfl, rfl⟩ w h; exact h.subD)) rfl ?_ DAll.nil)
        rintro _ _ ⟨pb, cb, rfl, rfl⟩
        refine D.all (rs := [10]) (by kernel_rfl) rfl (DAll.cons rfl (by kernel_rfl) (l_append (Kd.int .i64) (ys := l.drop i) se_36 Try.underlying36 ⟨_, ze_3, rfl⟩ (by decide) rfl rfl (by repeat (first | exact Pick.here | apply Pick.there)) (isO_cut i) (by repeat (first | exact List.Mem.head _ | apply List.Mem.tail)) rfl (by rw [List.length_drop]; rfl) (by rw [List.nil_append, List.length_append, List.length_take, List.length_drop]; show (2 * (_ + 1 + _) + 768) * 8 ≤ _; omega)) (.inr (by rintro _ _ ⟨pn, dn, rfl, rfl⟩ w h; exact h.subD)) rfl ?_ DAll.nil)
        rintro _ _ ⟨pn, dn, rfl, rfl⟩
        refine D.q 11 rfl (by kernel_rfl) (by kernel_rfl) (q_assign rfl) (fun _ h => h.subD) ?_
        refine D.done (by kernel_rfl) ?_
        refine K.ret (fn := Try.f71) Try.func71 (fun a w hk hs => res1 Try.results71 hk rfl) (fun w hs => ?_)
        rw [hins]
        exact ⟨_, [RowO (Kd.int .i64) 3 pn dn (l.take i ++ [n] ++ l.drop i)], rfl, ⟨pn, dn, rfl, rfl⟩, hs.fitD⟩
      · rintro _ _ ⟨b38, rfl, rfl⟩
        refine D.st (fun w h => rowO_nil (k := Kd.int .i64) 3 h) ?_
        refine D.all (rs := [3]) (by kernel_rfl) rfl (DAll.cons rfl (by kernel_rfl) (l_append (Kd.int .i64) (ys := l.take i) se_36 Try.underlying36 ⟨_, ze_3, rfl⟩ (by decide) rfl rfl (by repeat (first | exact Pick.here | apply Pick.there)) (isRow_take isO i) (by repeat (first | exact List.Mem.head _ | apply List.Mem.tail)) rfl (by rw [List.length_take]; omega) (by rw [List.length_take]; show (2 * (0 + _) + 768) * 8 ≤ _; omega)) (.inr (by rintro _ _ ⟨pa, ca, rfl, rfl⟩ w h; exact h.subD)) rfl ?_ DAll.nil)
        rintro _ _ ⟨pa, ca, rfl, rfl⟩
        refine D.all (rs := [6]) (by kernel_rfl) rfl (DAll.cons rfl (by kernel_rfl) (l_append (Kd.int .i64) (ys := [n]) se_36 Try.underlying36 ⟨_, ze_3, rfl⟩ (by decide) rfl rfl (by repeat (first | exact Pick.here | apply Pick.there)) isP (by repeat (first | exact List.Mem.head _ | apply List.Mem.tail)) rfl rfl (by rw [List.nil_append, List.length_take]; show (2 * (_ + 1) + 768) * 8 ≤ _; omega)) (.inr (by rintro _ _ ⟨pb, cb, rfl, rfl⟩ w h; exact h.subD)) rfl ?_ DAll.nil)
        rintro _ _ ⟨pb, cb, rfl, rfl⟩
        refine D.all (rs := [10]) (by kernel_rfl) rfl (DAll.cons rfl (by kernel_rfl) (l_append (Kd.int .i64) (ys := l.drop i) se_36 Try.underlying36 ⟨_, ze_3, rfl⟩ (by decide) rfl rfl (by repeat (first | exact Pick.here | apply Pick.there)) (isO_cut i) (by repeat (first | exact List.Mem.head _ | apply List.Mem.tail)) rfl (by rw [List.length_drop]; rfl) (by rw [List.nil_append, List.length_append, List.length_take, List.length_drop]; show (2 * (_ + 1 + _) + 768) * 8 ≤ _; omega)) (.inr (by rintro _ _ ⟨pn, dn, rfl, rfl⟩ w h; exact h.subD)) rfl ?_ DAll.nil)
        rintro _ _ ⟨pn, dn, rfl, rfl⟩
        refine D.q 11 rfl (by kernel_rfl) (by kernel_rfl) (q_assign rfl) (fun _ h => h.subD) ?_
        refine D.done (by kernel_rfl) ?_
        refine K.ret (fn := Try.f71) Try.func71 (fun a w hk hs => res1 Try.results71 hk rfl) (fun w hs => ?_)
        rw [hins]
        exact ⟨_, [RowO (Kd.int .i64) 3 pn dn (l.take i ++ [n] ++ l.drop i)], rfl, ⟨pn, dn, rfl, rfl⟩, hs.fitD⟩
end Go.Proofs.Ytfpkeanimkgpaaa.L
