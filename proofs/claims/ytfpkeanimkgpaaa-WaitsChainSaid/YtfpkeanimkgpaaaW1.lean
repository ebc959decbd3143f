/- Walks: who waits for whom, as a map of rows: adding edges. -/
import Derived.Test.YtfpkeanimkgpaaaLM
import Derived.Test.YtfpkeanimkgpaaaLI
import Derived.Test.YtfpkeanimkgpaaaS3
namespace Go.Proofs.Ytfpkeanimkgpaaa.L
open Go Go.Proofs
attribute [local irreducible] pv fv pt fz RowF RowO rowP old pure_ elA
set_option maxRecDepth 100000
set_option linter.unusedSimpArgs false
set_option linter.unusedVariables false

def encI (n : Int) : Value := .int .i64 n
structure GE where
  key : Int
  p : Option Addr
  c : Nat
  xs : List Int
def GE.val (g : GE) : Value := .slice g.p g.xs.length g.c
def gEnts (gs : List GE) : List (Int × Value) := gs.map fun g => (g.key, g.val)
def GEO (g : GE) : HP := RowO (Kd.int .i64) 3 g.p g.c g.xs
def gFind : List GE → Int → Option GE
  | [], _ => none
  | a :: l, k => if a.key = k then some a else gFind l k
def gAdj (gs : List GE) (k : Int) : List Int := ((gFind gs k).map GE.xs).getD []
/-- A map of rows that says f. -/
def GX (b : Nat) (f : Int → List Int) : HP := HP.ex (fun a : { gs : List GE // ∀ k, gAdj gs k = f k } => [mpO encI b (gEnts a.1), AllO GEO a.1])
/-- The map, its row at k taken out. -/
structure GV (f : Int → List Int) (k : Int) where
  gs : List GE
  p : Option Addr
  c : Nat
  rest : List GE
  adj : ∀ x, gAdj gs x = f x
  at_ : (∃ (i : Nat) (g : GE), gs[i]? = some g ∧ (∀ (j : Nat) (g' : GE), j < i → gs[j]? = some g' → g'.key ≠ k) ∧ g.key = k ∧ p = g.p ∧ c = g.c ∧ rest = gs.eraseIdx i) ∨ (gFind gs k = none ∧ p = none ∧ c = 0 ∧ rest = gs)
theorem gFind_at : ∀ {gs : List GE} {k : Int} {i : Nat} {g : GE}, gs[i]? = some g → (∀ (j : Nat) (g' : GE), j < i → gs[j]? = some g' → g'.key ≠ k) → g.key = k → gFind gs k = some g
  | [], k, i, g, h, _, _ => by cases h
  | a :: l, k, 0, g, h, _, hk => by
    obtain rfl : a = g := by simpa using h
    unfold gFind
    rw [if_pos hk]
  | a :: l, k, i + 1, g, h, hn, hk => by
    have ha : a.key ≠ k := hn 0 a (Nat.succ_pos _) rfl
    unfold gFind
    rw [if_neg ha]
    exact gFind_at (gs := l) (by simpa using h) (fun j g' hj hg => hn (j + 1) g' (Nat.succ_lt_succ hj) (by simpa using hg)) hk
theorem gFind_ex : ∀ {gs : List GE} {k : Int} {g : GE}, gFind gs k = some g → ∃ i : Nat, gs[i]? = some g ∧ (∀ (j : Nat) (g' : GE), j < i → gs[j]? = some g' → g'.key ≠ k) ∧ g.key = k
  | [], k, g, h => by cases h
  | a :: l, k, g, h => by
    unfold gFind at h
    by_cases ha : a.key = k
    · rw [if_pos ha] at h
      cases h
      exact ⟨0, rfl, fun j g' hj => absurd hj (Nat.not_lt_zero _), ha⟩
    · rw [if_neg ha] at h
      obtain ⟨i, h1, h2, h3⟩ := gFind_ex (gs := l) h
      refine ⟨i + 1, by simpa using h1, fun j g' hj hg => ?_, h3⟩
      cases j with
      | zero =>
        obtain rfl : a = g' := by simpa using hg
        exact ha
      | succ j => exact h2 j g' (Nat.lt_of_succ_lt_succ hj) (by simpa using hg)
theorem gEnts_get : ∀ (gs : List GE) (k : Int), mapGet (gEnts gs) k = (gFind gs k).map GE.val
  | [], _ => rfl
  | a :: l, k => by
    show (if k = a.key then some a.val else mapGet (gEnts l) k) = _
    unfold gFind
    by_cases h : k = a.key
    · rw [if_pos h, if_pos h.symm]; rfl
    · rw [if_neg h, if_neg (fun e => h e.symm)]
      exact gEnts_get l k
theorem GV.get {f : Int → List Int} {k : Int} (a : GV f k) : (mapGet (gEnts a.gs) k).getD (.slice none 0 0) = .slice a.p (f k).length a.c := by
  rw [gEnts_get, ← a.adj k]
  unfold gAdj
  rcases a.at_ with ⟨i, g, h1, h2, h3, h4, h5, _⟩ | ⟨h1, h2, h3, _⟩
  · rw [gFind_at h1 h2 h3, h4, h5]; rfl
  · rw [h1, h2, h3]; rfl
theorem gx_open {b : Nat} {f : Int → List Int} (k : Int) {ρ : World} {L : List HP} {w : World} (h : St ρ (GX b f :: L) w) : ∃ a : GV f k, St ρ ([mpO encI b (gEnts a.gs), RowO (Kd.int .i64) 3 a.p a.c (f k), AllO GEO a.rest] ++ L) w := by
  obtain ⟨⟨gs, hg⟩, h⟩ := St.exO h
  have h : St ρ ([mpO encI b (gEnts gs), AllO GEO gs] ++ L) w := h
  cases hf : gFind gs k with
  | none =>
    have hk : f k = [] := by rw [← hg k]; unfold gAdj; rw [hf]; rfl
    refine ⟨⟨gs, none, 0, gs, hg, .inr ⟨hf, rfl, rfl, rfl⟩⟩, ?_⟩
    rw [hk]
    exact (rowO_nil (k := Kd.int .i64) 3 h).fitD
  | some g =>
    obtain ⟨i, h1, h2, h3⟩ := gFind_ex hf
    have hk : f k = g.xs := by rw [← hg k]; unfold gAdj; rw [hf]; rfl
    refine ⟨⟨gs, g.p, g.c, gs.eraseIdx i, hg, .inl ⟨i, g, h1, h2, h3, rfl, rfl, rfl⟩⟩, ?_⟩
    rw [hk]
    have h4 := allO_out (f := GEO) h1 (h.fit (M := [AllO GEO gs, mpO encI b (gEnts gs)]) (by repeat (first | exact Give.nil | (apply Give.perI; (repeat (first | exact List.Mem.head _ | apply List.Mem.tail))) | (apply Give.own; (repeat (first | exact Pick.here | apply Pick.there))))) (by repeat (first | exact Drop.refl | apply Drop.skip)))
    exact h4.fit (M := [mpO encI b (gEnts gs), GEO g, AllO GEO (gs.eraseIdx i)]) (by repeat (first | exact Give.nil | (apply Give.perI; (repeat (first | exact List.Mem.head _ | apply List.Mem.tail))) | (apply Give.own; (repeat (first | exact Pick.here | apply Pick.there))))) (by repeat (first | exact Drop.refl | apply Drop.skip))
theorem set_id {α : Type} {l : List α} {i : Nat} {x : α} (h : l[i]? = some x) : l.set i x = l := by
  apply List.ext_getElem?
  intro j
  rw [List.getElem?_set]
  split
  · rename_i e
    subst e
    rw [if_pos (List.getElem?_eq_some_iff.1 h).1, h]
  · rfl
theorem gx_back {b : Nat} {f : Int → List Int} {k : Int} (a : GV f k) {ρ : World} {L : List HP} {w : World} (h : St ρ ([mpO encI b (gEnts a.gs), RowO (Kd.int .i64) 3 a.p a.c (f k), AllO GEO a.rest] ++ L) w) : St ρ (GX b f :: L) w := by
  obtain ⟨gs, p, c, rest, hg, hat⟩ := a
  refine St.exI (f := fun a : { gs : List GE // ∀ k, gAdj gs k = f k } => [mpO encI b (gEnts a.1), AllO GEO a.1]) ⟨gs, hg⟩ ?_
  rcases hat with ⟨i, g, h1, h2, h3, rfl, rfl, rfl⟩ | ⟨h1, rfl, rfl, rfl⟩
  · have hk : f k = g.xs := by rw [← hg k]; unfold gAdj; rw [gFind_at h1 h2 h3]; rfl
    rw [hk] at h
    have hi := (List.getElem?_eq_some_iff.1 h1).1
    have h4 : St ρ (GEO g :: AllO GEO (gs.eraseIdx i) :: mpO encI b (gEnts gs) :: L) w := h.fit (M := [GEO g, AllO GEO (gs.eraseIdx i), mpO encI b (gEnts gs)]) (by repeat (first | exact Give.nil | (apply Give.perI; (repeat (first | exact List.Mem.head _ | apply List.Mem.tail))) | (apply Give.own; (repeat (first | exact Pick.here | apply Pick.there))))) (by repeat (first | exact Drop.refl | apply Drop.skip))
    have h5 := allO_put (f := GEO) (l' := gs) (x := g) (by have := pick_map_set GEO (l := gs) (i := i) (x := g) hi; rwa [set_id h1] at this) h4
    exact h5.fitD
  · exact h.fitD
def gPut : List GE → Int → GE → List GE
  | [], _, g => [g]
  | a :: l, k, g => if a.key = k then g :: l else a :: gPut l k g
theorem gPut_ents : ∀ (gs : List GE) (k : Int) (g : GE), g.key = k → gEnts (gPut gs k g) = mapPut (gEnts gs) k g.val
  | [], k, g, h => by subst h; rfl
  | a :: l, k, g, h => by
    show gEnts (if a.key = k then g :: l else a :: gPut l k g) = (if k = a.key then (a.key, g.val) :: gEnts l else (a.key, a.val) :: mapPut (gEnts l) k g.val)
    by_cases ha : a.key = k
    · rw [if_pos ha, if_pos ha.symm]
      show (g.key, g.val) :: gEnts l = _
      rw [h, ha]
    · rw [if_neg ha, if_neg (fun e => ha e.symm), ← gPut_ents l k g h]
      rfl
theorem gPut_find : ∀ (gs : List GE) (k : Int) (g : GE) (x : Int), g.key = k → gFind (gPut gs k g) x = if x = k then some g else gFind gs x
  | [], k, g, x, h => by
    show (if g.key = x then some g else none) = _
    rw [h]
    by_cases hx : x = k
    · rw [if_pos hx, if_pos hx.symm]
    · rw [if_neg hx, if_neg (fun e => hx e.symm)]; rfl
  | a :: l, k, g, x, h => by
    show gFind (if a.key = k then g :: l else a :: gPut l k g) x = if x = k then some g else (if a.key = x then some a else gFind l x)
    by_cases ha : a.key = k
    · rw [if_pos ha]
      show (if g.key = x then some g else gFind l x) = _
      rw [h]
      by_cases hx : x = k
      · rw [if_pos hx, if_pos hx.symm]
      · rw [if_neg hx, if_neg (fun e => hx e.symm), if_neg (fun e => hx (by rw [← e, ha]))]
    · rw [if_neg ha]
      show (if a.key = x then some a else gFind (gPut l k g) x) = _
      rw [gPut_find l k g x h]
      by_cases hx : x = k
      · rw [if_pos hx, if_neg (fun e => ha (by rw [e, hx])), if_pos hx]
      · rw [if_neg hx, if_neg hx]
theorem gPut_set : ∀ {gs : List GE} {k : Int} {i : Nat} {g : GE} (g2 : GE), gs[i]? = some g → (∀ (j : Nat) (g' : GE), j < i → gs[j]? = some g' → g'.key ≠ k) → g.key = k → gPut gs k g2 = gs.set i g2
  | [], k, i, g, g2, h, _, _ => by cases h
  | a :: l, k, 0, g, g2, h, _, hk => by
    obtain rfl : a = g := by simpa using h
    unfold gPut
    rw [if_pos hk]; rfl
  | a :: l, k, i + 1, g, g2, h, hn, hk => by
    have ha : a.key ≠ k := hn 0 a (Nat.succ_pos _) rfl
    unfold gPut
    rw [if_neg ha, List.set_cons_succ, gPut_set (gs := l) g2 (by simpa using h) (fun j g' hj hg => hn (j + 1) g' (Nat.succ_lt_succ hj) (by simpa using hg)) hk]
theorem gPut_new : ∀ {gs : List GE} {k : Int} (g2 : GE), gFind gs k = none → gPut gs k g2 = gs ++ [g2]
  | [], _, _, _ => rfl
  | a :: l, k, g2, h => by
    unfold gFind at h
    by_cases ha : a.key = k
    · rw [if_pos ha] at h; cases h
    · rw [if_neg ha] at h
      unfold gPut
      rw [if_neg ha, gPut_new (gs := l) g2 h]; rfl
theorem gx_put {b : Nat} {f : Int → List Int} {k : Int} (a : GV f k) {p : Option Addr} {c : Nat} {ys : List Int} {ρ : World} {L : List HP} {w : World} (h : St ρ ([mpO encI b (mapPut (gEnts a.gs) k (.slice p ys.length c)), RowO (Kd.int .i64) 3 p c ys, AllO GEO a.rest] ++ L) w) : St ρ (GX b (fun x => if x = k then ys else f x) :: L) w := by
  obtain ⟨gs, p0, c0, rest, hg, hat⟩ := a
  have h : St ρ ([mpO encI b (mapPut (gEnts gs) k (GE.mk k p c ys).val), GEO ⟨k, p, c, ys⟩, AllO GEO rest] ++ L) w := h
  rw [← gPut_ents gs k ⟨k, p, c, ys⟩ rfl] at h
  refine St.exI (f := fun a : { gs : List GE // ∀ x, gAdj gs x = (fun x => if x = k then ys else f x) x } => [mpO encI b (gEnts a.1), AllO GEO a.1]) ⟨gPut gs k ⟨k, p, c, ys⟩, fun x => ?_⟩ ?_
  · unfold gAdj
    rw [gPut_find gs k _ x rfl]
    show _ = if x = k then ys else f x
    by_cases hx : x = k
    · rw [if_pos hx, if_pos hx]; rfl
    · rw [if_neg hx, if_neg hx]; exact hg x
  · have h4 : St ρ (GEO ⟨k, p, c, ys⟩ :: AllO GEO rest :: mpO encI b (gEnts (gPut gs k ⟨k, p, c, ys⟩)) :: L) w := h.fit (M := [GEO ⟨k, p, c, ys⟩, AllO GEO rest, mpO encI b (gEnts (gPut gs k ⟨k, p, c, ys⟩))]) (by repeat (first | exact Give.nil | (apply Give.perI; (repeat (first | exact List.Mem.head _ | apply List.Mem.tail))) | (apply Give.own; (repeat (first | exact Pick.here | apply Pick.there))))) (by repeat (first | exact Drop.refl | apply Drop.skip))
    have h5 : St ρ (AllO GEO (gPut gs k ⟨k, p, c, ys⟩) :: mpO encI b (gEnts (gPut gs k ⟨k, p, c, ys⟩)) :: L) w := by
      refine allO_put (f := GEO) (x := ⟨k, p, c, ys⟩) ?_ h4
      rcases hat with ⟨i, g, h1, h2, h3, rfl, rfl, rfl⟩ | ⟨h1, rfl, rfl, rfl⟩
      · rw [gPut_set _ h1 h2 h3]
        exact pick_map_set GEO (List.getElem?_eq_some_iff.1 h1).1
      · rw [gPut_new _ h1]
        have := pick_map_ins GEO (⟨k, p, c, ys⟩ : GE) (l := rest) (i := rest.length) (Nat.le_refl _)
        rwa [List.take_length, List.drop_length, List.append_nil] at this
    exact h5.fitD
theorem gx_new {b : Nat} {ρ : World} {L : List HP} {w : World} (h : St ρ (mpO encI b [] :: L) w) : St ρ (GX b (fun _ => []) :: L) w :=
  St.exI (f := fun a : { gs : List GE // ∀ x, gAdj gs x = [] } => [mpO encI b (gEnts a.1), AllO GEO a.1]) ⟨[], fun _ => rfl⟩ ((allO_nil GEO h).fit (M := [mpO encI b (gEnts []), AllO GEO []]) (by repeat (first | exact Give.nil | (apply Give.perI; (repeat (first | exact List.Mem.head _ | apply List.Mem.tail))) | (apply Give.own; (repeat (first | exact Pick.here | apply Pick.there))))) (by repeat (first | exact Drop.refl | apply Drop.skip)))
theorem zv_ints : zeroV Try.prog 36 = some (.slice none 0 0) := by kernel_rfl
theorem zv_bool : zeroV Try.prog 4 = some (.bool false) := by kernel_rfl
theorem mk_int : MKey Try.prog 3 encI := mkey_int Try.underlying3
section
variable {X : Fx} {E : Env} {L : List HP} {d : Option Tmp} {ty : TypeId} {pos : String} {af : Array Edge} {gd : Option (Nat × Bool)} {t u e : TypeId} {x ix : Operand}
theorem q_lookupG {b : Nat} {f : Int → List Int} {k : Int} (a : GV f k) (hP : X.P = Try.prog) (ht : X.P.underlying t = some (.map 3 36)) (hx : Env.ev E x = some (.map (some b))) (hi : Env.ev E ix = some (.int .i64 k)) (m : mpO encI b (gEnts a.gs) ∈ L) : OpQ X ⟨d, .lookup t x ix false, ty, pos, af, gd⟩ E L (.slice a.p (f k).length a.c) := by
  have h := q_lookup (X := X) (d := d) (ty := ty) (pos := pos) (af := af) (gd := gd) (n := k) (enc := encI) ht (by rw [hP]; exact mk_int) (by rw [hP]; exact zv_ints) hx hi m
  rwa [a.get] at h
end
/-- Edges taken up. -/
def addL (f : Int → List Int) (l : List P2) : Int → List Int := fun x => f x ++ (l.filter fun e => decide (e.a = x)).map P2.b
theorem addL_nil (f : Int → List Int) : addL f [] = f := by funext x; unfold addL; simp
theorem addL_succ (f : Int → List Int) {l : List P2} {i : Nat} {e : P2} (h : l[i]? = some e) : (fun x => if x = e.a then addL f (l.take i) e.a ++ [e.b] else addL f (l.take i) x) = addL f (l.take (i + 1)) := by
  funext x
  unfold addL
  rw [List.take_add_one, h, List.filter_append, List.map_append]
  by_cases hx : x = e.a
  · subst hx; simp
  · have : ¬ e.a = x := fun e => hx e.symm
    simp [hx, this]
theorem addL_len (f : Int → List Int) (l : List P2) (x : Int) : (addL f l x).length ≤ (f x).length + l.length := by
  unfold addL
  rw [List.length_append, List.length_map]
  have := List.length_filter_le (fun e : P2 => decide (e.a = x)) l
  omega
set_option maxHeartbeats 1600000 in
theorem gr_add (b : Nat) (f : Int → List Int) (A : HP) (q : Option Addr) (cap : Nat) (l : List P2) (hA : IsRow A Kd.p2 q l) (hl : ∀ x, (f x).length + l.length ≤ 1000000000) (hl2 : l.length ≤ 1000000000) : Fn Try.prog 50 [.map (some b), .slice q l.length cap].toArray [GX b f, A] (fun r post => r = .tuple #[] ∧ post = [GX b (addL f l), A]) := by
  refine Fn.enter (N := 24) Try.func50 rfl Try.ntmps50 (by kernel_rfl) rfl (fun ρ L => ?_)
  refine K.seq ?_
  refine K.region ?_
  refine KO.q rfl (q_move rfl) ?_
  refine KO.q rfl (q_len Try.underlying32 rfl) ?_
  refine KO.q rfl (q_move rfl) ?_
  refine KO.done ?_
  refine K.block ?_
  refine K.rounds2 (ι := { i : Nat // i ≤ l.length }) (fun s => [(8, .int .i64 s.1), (7, .int .i64 l.length), (6, .slice q l.length cap), (0, .map (some b))]) (fun s => [GX b (addL f (l.take s.1)), A] ++ L) (fun s => l.length - s.1) ⟨0, Nat.zero_le _⟩ (by repeat (first | exact Env.sub_nil _ | refine Env.sub_cons rfl ?_)) (fun w h => by rw [List.take_zero, addL_nil]; exact h.fitD) (fun s ih => ?_)
  obtain ⟨i, hi⟩ := s
  dsimp only at hi ⊢
  refine K.seq ?_
  refine K.region ?_
  refine KO.q rfl (q_lt rfl rfl) ?_
  refine KO.done ?_
  refine K.seq ?_
  refine K.dcond (s := 9) rfl (fun g9 => ?_) (fun g9 => ?_)
  · obtain ⟨e, he⟩ : ∃ e, l[i]? = some e := ⟨_, List.getElem?_eq_getElem (by omega)⟩
    have hsu := addL_succ f he
    have hfl := addL_len f (l.take i) e.a
    have hfe := hl e.a
    rw [List.length_take] at hfl
    obtain ⟨fi, hfi⟩ : ∃ fi, fi = addL f (l.take i) := ⟨_, rfl⟩
    rw [← hfi] at hsu hfl ⊢
    refine K.skip <| K.seq <| K.block <| K.seq ?_
    refine K.region ?_
    refine KO.q rfl (q_ix (xs := l) i se_32 rfl rfl rfl hA (by repeat (first | exact List.Mem.head _ | apply List.Mem.tail)) rfl (by omega)) ?_
    refine KO.q rfl (q_ldEN (xs := l) ck_39 rfl hA (by repeat (first | exact List.Mem.head _ | apply List.Mem.tail)) he) ?_
    refine KO.loud rfl (l_alloc zo_39) ?_
    rintro _ _ ⟨b5, rfl, rfl⟩
    refine KO.loudN rfl (l_storeAll ck_39 rfl rfl ⟨rfl, rfl⟩ (p2_one e) (by repeat (first | exact Pick.here | apply Pick.there))) ?_
    rintro _ _ ⟨rfl, rfl⟩
    refine KO.done ?_
    refine K.ex (fun w h => gx_open e.a (h.pick (by repeat (first | exact Pick.here | apply Pick.there)))) (fun a => ?_)
    refine K.drawS [mpO encI b (gEnts a.gs), pv b5 39 e.cells] (fun _ h => h.subD) mixed ?_
    refine D.q 0 rfl (by kernel_rfl) (by kernel_rfl) (q_move rfl) (fun _ h => h.subD) ?_
    refine D.q 1 rfl (by kernel_rfl) (by kernel_rfl) (q_ixA ar_p2 rfl rfl (by decide) (by decide)) (fun _ h => h.subD) ?_
    refine D.q 2 rfl (by kernel_rfl) (by kernel_rfl) (q_load1D ck_3 rfl) (fun _ h => h.subD) ?_
    refine D.q 3 rfl (by kernel_rfl) (by kernel_rfl) (q_move rfl) (fun _ h => h.subD) ?_
    refine D.q 4 rfl (by kernel_rfl) (by kernel_rfl) (q_ixA ar_p2 rfl rfl (by decide) (by decide)) (fun _ h => h.subD) ?_
    refine D.q 5 rfl (by kernel_rfl) (by kernel_rfl) (q_load1D ck_3 rfl) (fun _ h => h.subD) ?_
    refine D.q 6 rfl (by kernel_rfl) (by kernel_rfl) (q_lookupG a rfl Try.underlying87 rfl rfl (by repeat (first | exact List.Mem.head _ | apply List.Mem.tail))) (fun _ h => h.subD) ?_
    refine D.q 7 rfl (by kernel_rfl) (by kernel_rfl) (q_ixA ar_p2 rfl rfl (by decide) (by decide)) (fun _ h => h.subD) ?_
    refine D.q 8 rfl (by kernel_rfl) (by kernel_rfl) (q_load1D ck_3 rfl) (fun _ h => h.subD) ?_
    refine D.all (rs := [9]) (by kernel_rfl) rfl (DAll.cons rfl (by kernel_rfl) (l_slice sz_36_1 rfl (by repeat (first | exact Fill.nil | (apply Fill.cons; rfl; rfl; rfl) | exact SetN.nil | apply SetN.cons | exact SetAt.here | apply SetAt.there))) (.inr (by rintro _ _ ⟨b21, rfl, rfl⟩ w h; exact h.subD)) rfl ?_ DAll.nil)
    rintro _ _ ⟨b21, rfl, rfl⟩
    refine D.all (rs := [10]) (by kernel_rfl) rfl (DAll.cons rfl (by kernel_rfl) (l_append (Kd.int .i64) (ys := [e.b]) se_36 Try.underlying36 ⟨_, ze_3, rfl⟩ (by decide) rfl rfl (by repeat (first | exact Pick.here | apply Pick.there)) isP (by repeat (first | exact List.Mem.head _ | apply List.Mem.tail)) rfl rfl (by show (2 * ((fi e.a).length + 1) + 768) * 8 ≤ _; omega)) (.inr (by rintro _ _ ⟨pn, dn, rfl, rfl⟩ w h; exact h.subD)) rfl ?_ DAll.nil)
    rintro _ _ ⟨pn, dn, rfl, rfl⟩
    refine D.all (rs := [11]) (by kernel_rfl) rfl (DAll.consN rfl (by kernel_rfl) (l_mapUpdate (enc := encI) (n := e.a) Try.underlying87 mk_int rfl rfl rfl (by repeat (first | exact Pick.here | apply Pick.there))) (.inl (by kernel_rfl)) rfl ?_ DAll.nil)
    rintro _ _ ⟨rfl, rfl⟩
    refine D.done (by kernel_rfl) ?_
    refine K.inBlock ?_
    refine K.st (fun w h => gx_put a (p := pn) (c := dn) (ys := fi e.a ++ [e.b]) (h.fit (M := [mpO encI b (mapPut (gEnts a.gs) e.a (.slice pn (fi e.a ++ [e.b]).length dn)), RowO (Kd.int .i64) 3 pn dn (fi e.a ++ [e.b]), AllO GEO a.rest, A]) (by repeat (first | exact Give.nil | (apply Give.perI; (repeat (first | exact List.Mem.head _ | apply List.Mem.tail))) | (apply Give.own; (repeat (first | exact Pick.here | apply Pick.there))))) (by repeat (first | exact Drop.refl | apply Drop.skip)))) ?_
    rw [hsu]
    refine K.region ?_
    refine KO.q rfl (q_add rfl rfl (by first | omega | (simp; omega)) (by first | omega | (simp; omega))) ?_
    refine KO.q rfl (q_move rfl) ?_
    refine KO.done ?_
    exact K.weak (by repeat (first | exact Env.sub_nil _ | refine Env.sub_cons rfl ?_)) (fun w h => h.fitD) (ih ⟨i + 1, by omega⟩ (by show l.length - (i + 1) < l.length - i; omega))
  · obtain rfl : i = l.length := by omega
    rw [List.take_length]
    refine K.exit rfl ?_
    refine K.fin (fn := Try.f50) Try.func50 (fun a w hk hs => res0 Try.results50) (fun w hs => ?_)
    exact ⟨_, [GX b (addL f l), A], rfl, ⟨rfl, rfl⟩, hs.fitD⟩
end Go.Proofs.Ytfpkeanimkgpaaa.L
