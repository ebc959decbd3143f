/- Walks: names of locks: which is ahead, which is plain. -/
import Derived.Test.YtcpkcjabmookmaaGreatS2
namespace Go.Proofs.YtcpkcjabmookmaaGreat.L
open Go Go.Proofs
attribute [local irreducible] pv fv pt fz RowF RowO rowP old pure_ elA
set_option maxRecDepth 100000
set_option linter.unusedSimpArgs false
set_option linter.unusedVariables false

--%rec api.Name Nm
--%kd api.Name Kd.nm
structure Nm where
  deep : Int
  object : ByteArray
  row : ByteArray
def Nm.cells (x : Nm) : List Value := [.int .i64 x.deep, .string x.object, .string x.row]
theorem nm_sz (x : Nm) : x.cells.length = 3 := rfl
theorem nm_one (x : Nm) : ∀ v ∈ x.cells, v.oneCell' = true := fun v h => by simp [Nm.cells] at h; rcases h with rfl | rfl | rfl <;> rfl
def Kd.nm : Kd Nm := Kd.flat 3 Nm.cells nm_sz nm_one
theorem q_as_nm {X : Fx} {o : Oper} {E : Env} {L : List HP} {cs : List Value} {deep_ : Int} {object_ : ByteArray} {row_ : ByteArray} (h : OpQ X o E L (.agg cs.toArray)) (e : cs = [.int .i64 deep_, .string object_, .string row_]) : OpQ X o E L (.agg (Nm.cells ⟨deep_, object_, row_⟩).toArray) := q_as h e
theorem nm_ext {a b : Nm} : a = b ↔ a.deep = b.deep ∧ a.object = b.object ∧ a.row = b.row := by cases a; cases b; simp
instance : DecidableEq Nm := fun _ _ => decidable_of_iff _ nm_ext.symm
theorem nm_hp : Tryz.prog.stoodInHeld 31 = false := by kernel_rfl
theorem nm_hg : Tryz.prog.eqGuardType Tryz.prog.depth 31 = false := by kernel_rfl
theorem nm_eqD (a b : Nm) {fs : Array Field} (h : Tryz.prog.underlying 31 = some (.struct fs)) : EqG Tryz.prog a.cells b.cells fs.toList (decide (a = b)) := by
  rw [Tryz.underlying31] at h
  cases h
  have e : ((a.deep == b.deep) && ((a.object == b.object) && ((a.row == b.row) && true))) = decide (a = b) := by rw [Bool.eq_iff_iff, decide_eq_true_iff, nm_ext]; simp [bbeq]
  rw [← e]
  exact (.cons rfl ck_3 rfl rfl (.int Tryz.underlying3) (.cons rfl ck_9 rfl rfl (.str Tryz.underlying9) (.cons rfl ck_9 rfl rfl (.str Tryz.underlying9) .nil)))
def Nm.beq (a b : Nm) : Bool := (a.deep == b.deep) && ((a.object == b.object) && ((a.row == b.row) && true))
theorem nm_beqD (a b : Nm) : a.beq b = decide (a = b) := by rw [Bool.eq_iff_iff, decide_eq_true_iff, nm_ext]; simp [Nm.beq, bbeq]
theorem nm_eqF (a b : Nm) {fs : Array Field} (h : Tryz.prog.underlying 31 = some (.struct fs)) : EqF Tryz.prog a.cells b.cells fs.toList (a.beq b) := by
  rw [Tryz.underlying31] at h
  cases h
  exact (.cons rfl ck_3 rfl rfl (.int Tryz.underlying3) (.cons rfl ck_9 rfl rfl (.str Tryz.underlying9) (.cons rfl ck_9 rfl rfl (.str Tryz.underlying9) .nil)))
def Nm.fits (x : Nm) : Prop := (-9223372036854775808 ≤ x.deep ∧ x.deep ≤ 9223372036854775807) ∧ (x.object.size : Int) ≤ 9223372036854775807 ∧ (x.row.size : Int) ≤ 9223372036854775807
theorem nm_len (cs : List Value) (h : cs.length = 3) : ∃ v0 v1 v2, cs = [v0, v1, v2] := by
  match cs, h with
  | [v0, v1, v2], _ => exact ⟨v0, v1, v2, rfl⟩
theorem opens_nm {H : Type} {enc : TypeId × Value → H} {W : World} : Opens enc Tryz.prog W Kd.nm 31 Nm.fits := fun fuel cs y h => by
  obtain ⟨hl, n, hf⟩ := opens_fields Tryz.underlying31 h
  have hl2 : cs.length = 3 := hl.trans (by kernel_rfl)
  obtain ⟨v0, v1, v2, rfl⟩ := nm_len cs hl2
  have cint : Tryz.prog.cellsOf 3 = 1 := by kernel_rfl
  have cstring : Tryz.prog.cellsOf 9 = 1 := by kernel_rfl
  obtain ⟨y0, h0⟩ := hf 0 _ rfl
  replace h0 : DataW.trod enc Tryz.prog W 0 (fun _ => true) true n 3 (([v0, v1, v2].drop 0).take (Tryz.prog.cellsOf 3)) = some y0 := h0
  rw [cint] at h0
  obtain ⟨x0, e0, b0⟩ := opens_int Tryz.underlying3 _ _ _ h0
  have u0 : v0 = Value.int .i64 x0 := (List.cons.inj (show [v0] = [Value.int .i64 x0] from e0)).1
  obtain ⟨y1, h1⟩ := hf 1 _ rfl
  replace h1 : DataW.trod enc Tryz.prog W 0 (fun _ => true) true n 9 (([v0, v1, v2].drop 1).take (Tryz.prog.cellsOf 9)) = some y1 := h1
  rw [cstring] at h1
  obtain ⟨x1, e1, b1⟩ := opens_str Tryz.underlying9 _ _ _ h1
  have u1 : v1 = Value.string x1 := (List.cons.inj (show [v1] = [Value.string x1] from e1)).1
  obtain ⟨y2, h2⟩ := hf 2 _ rfl
  replace h2 : DataW.trod enc Tryz.prog W 0 (fun _ => true) true n 9 (([v0, v1, v2].drop 2).take (Tryz.prog.cellsOf 9)) = some y2 := h2
  rw [cstring] at h2
  obtain ⟨x2, e2, b2⟩ := opens_str Tryz.underlying9 _ _ _ h2
  have u2 : v2 = Value.string x2 := (List.cons.inj (show [v2] = [Value.string x2] from e2)).1
  refine ⟨⟨x0, x1, x2⟩, ?_, b0, b1, b2⟩
  show [v0, v1, v2] = Nm.cells _
  simp only [Nm.cells]
  subst u0 u1 u2
  rfl
--%call cmp.isNaN[string] := nan_str _
theorem nan_str (a : ByteArray) : Fn Tryz.prog 100 [.string a].toArray [] (fun r post => r = .bool false ∧ post = []) := by
  refine Fn.enter (N := 6) Tryz.func100 rfl Tryz.ntmps100 (by kernel_rfl) rfl (fun ρ L => ?_)
  refine K.seq ?_
  refine K.region ?_
  refine KO.q rfl (q_assign rfl) ?_
  refine KO.done ?_
  refine K.seq ?_
  refine K.region ?_
  refine KO.q rfl (q_move rfl) ?_
  refine KO.q rfl (q_move rfl) ?_
  refine KO.q rfl (q_sneF rfl rfl (rfl)) ?_
  refine KO.q rfl (q_assign rfl) ?_
  refine KO.done ?_
  refine K.ret (fn := Tryz.f100) Tryz.func100 (fun a w hk hs => res1 Tryz.results100 hk rfl) (fun w hs => ?_)
  exact ⟨_, [], rfl, ⟨rfl, rfl⟩, hs.fitD⟩
--%call cmp.isNaN[int] := nan_int _
theorem nan_int (a : Int) : Fn Tryz.prog 77 [.int .i64 a].toArray [] (fun r post => r = .bool false ∧ post = []) := by
  refine Fn.enter (N := 6) Tryz.func77 rfl Tryz.ntmps77 (by kernel_rfl) rfl (fun ρ L => ?_)
  refine K.seq ?_
  refine K.region ?_
  refine KO.q rfl (q_assign rfl) ?_
  refine KO.done ?_
  refine K.seq ?_
  refine K.region ?_
  refine KO.q rfl (q_move rfl) ?_
  refine KO.q rfl (q_move rfl) ?_
  refine KO.q rfl (q_neF rfl rfl (rfl)) ?_
  refine KO.q rfl (q_assign rfl) ?_
  refine KO.done ?_
  refine K.ret (fn := Tryz.f77) Tryz.func77 (fun a w hk hs => res1 Tryz.results77 hk rfl) (fun w hs => ?_)
  exact ⟨_, [], rfl, ⟨rfl, rfl⟩, hs.fitD⟩
--%call cmp.Compare[string] := cmp_str _ _
theorem cmp_str (a b : ByteArray) : Fn Tryz.prog 79 [.string a, .string b].toArray [] (fun r post => r = .int .i64 (cmpB a b) ∧ post = []) := by
  refine Fn.enter (N := 20) Tryz.func79 rfl Tryz.ntmps79 (by kernel_rfl) rfl (fun ρ L => ?_)
  refine K.seq ?_
  refine K.region ?_
  refine KO.q rfl (q_assign rfl) ?_
  refine KO.done ?_
  refine K.seq ?_
  refine K.region ?_
  refine KO.q rfl (q_move rfl) ?_
  refine KO.loud rfl (OpL.callD rfl (h := nan_str _)) ?_
  rintro _ _ ⟨_, ⟨rfl, rfl⟩, rfl⟩
  refine KO.q rfl (q_assign rfl) ?_
  refine KO.done ?_
  refine K.seq ?_
  refine K.region ?_
  refine KO.q rfl (q_move rfl) ?_
  refine KO.loud rfl (OpL.callD rfl (h := nan_str _)) ?_
  rintro _ _ ⟨_, ⟨rfl, rfl⟩, rfl⟩
  refine KO.q rfl (q_assign rfl) ?_
  refine KO.done ?_
  refine K.seq <| K.seq ?_
  refine K.region ?_
  refine KO.q rfl (q_move rfl) ?_
  refine KO.done ?_
  refine K.no rfl ?_
  refine K.skip <| K.seq <| K.seq ?_
  refine K.region ?_
  refine KO.q rfl (q_move rfl) ?_
  refine KO.done ?_
  refine K.no rfl ?_
  refine K.skip <| K.seq <| K.seq ?_
  refine K.region ?_
  refine KO.q rfl (q_move rfl) ?_
  refine KO.q rfl (q_move rfl) ?_
  refine KO.q rfl (q_slt rfl rfl) ?_
  refine KO.done ?_
  refine K.bcond (s := 16) rfl (fun g16 => ?_) (fun g16 => ?_)
  · refine K.seq ?_
    refine K.region ?_
    refine KO.q rfl (q_assign rfl) ?_
    refine KO.done ?_
    refine K.ret (fn := Tryz.f79) Tryz.func79 (fun a w hk hs => res1 Tryz.results79 hk rfl) (fun w hs => ?_)
    exact ⟨_, [], rfl, ⟨by rw [cmpB_less]; simp_all, rfl⟩, hs.fitD⟩
  · refine K.skip <| K.seq <| K.seq ?_
    refine K.region ?_
    refine KO.q rfl (q_move rfl) ?_
    refine KO.q rfl (q_move rfl) ?_
    refine KO.q rfl (q_sgt rfl rfl) ?_
    refine KO.done ?_
    refine K.bcond (s := 19) rfl (fun g19 => ?_) (fun g19 => ?_)
    · refine K.seq ?_
      refine K.region ?_
      refine KO.q rfl (q_assign rfl) ?_
      refine KO.done ?_
      refine K.ret (fn := Tryz.f79) Tryz.func79 (fun a w hk hs => res1 Tryz.results79 hk rfl) (fun w hs => ?_)
      exact ⟨_, [], rfl, ⟨by rw [cmpB_less]; simp_all, rfl⟩, hs.fitD⟩
    · refine K.skip <| K.seq ?_
      refine K.region ?_
      refine KO.q rfl (q_assign rfl) ?_
      refine KO.done ?_
      refine K.ret (fn := Tryz.f79) Tryz.func79 (fun a w hk hs => res1 Tryz.results79 hk rfl) (fun w hs => ?_)
      exact ⟨_, [], rfl, ⟨by rw [cmpB_less]; simp_all, rfl⟩, hs.fitD⟩
--%call cmp.Compare[int] := cmp_int _ _
theorem cmp_int (a b : Int) : Fn Tryz.prog 45 [.int .i64 a, .int .i64 b].toArray [] (fun r post => r = .int .i64 (cmpI a b) ∧ post = []) := by
  refine Fn.enter (N := 20) Tryz.func45 rfl Tryz.ntmps45 (by kernel_rfl) rfl (fun ρ L => ?_)
  refine K.seq ?_
  refine K.region ?_
  refine KO.q rfl (q_assign rfl) ?_
  refine KO.done ?_
  refine K.seq ?_
  refine K.region ?_
  refine KO.q rfl (q_move rfl) ?_
  refine KO.loud rfl (OpL.callD rfl (h := nan_int _)) ?_
  rintro _ _ ⟨_, ⟨rfl, rfl⟩, rfl⟩
  refine KO.q rfl (q_assign rfl) ?_
  refine KO.done ?_
  refine K.seq ?_
  refine K.region ?_
  refine KO.q rfl (q_move rfl) ?_
  refine KO.loud rfl (OpL.callD rfl (h := nan_int _)) ?_
  rintro _ _ ⟨_, ⟨rfl, rfl⟩, rfl⟩
  refine KO.q rfl (q_assign rfl) ?_
  refine KO.done ?_
  refine K.seq <| K.seq ?_
  refine K.region ?_
  refine KO.q rfl (q_move rfl) ?_
  refine KO.done ?_
  refine K.no rfl ?_
  refine K.skip <| K.seq <| K.seq ?_
  refine K.region ?_
  refine KO.q rfl (q_move rfl) ?_
  refine KO.done ?_
  refine K.no rfl ?_
  refine K.skip <| K.seq <| K.seq ?_
  refine K.region ?_
  refine KO.q rfl (q_move rfl) ?_
  refine KO.q rfl (q_move rfl) ?_
  refine KO.q rfl (q_lt rfl rfl) ?_
  refine KO.done ?_
  refine K.dcond (s := 16) rfl (fun g16 => ?_) (fun g16 => ?_)
  · refine K.seq ?_
    refine K.region ?_
    refine KO.q rfl (q_assign rfl) ?_
    refine KO.done ?_
    refine K.ret (fn := Tryz.f45) Tryz.func45 (fun a w hk hs => res1 Tryz.results45 hk rfl) (fun w hs => ?_)
    exact ⟨_, [], rfl, ⟨by refine congrArg (Value.int .i64) ?_; unfold cmpI; (repeat' split) <;> omega, rfl⟩, hs.fitD⟩
  · refine K.skip <| K.seq <| K.seq ?_
    refine K.region ?_
    refine KO.q rfl (q_move rfl) ?_
    refine KO.q rfl (q_move rfl) ?_
    refine KO.q rfl (q_gt rfl rfl) ?_
    refine KO.done ?_
    refine K.dcond (s := 19) rfl (fun g19 => ?_) (fun g19 => ?_)
    · refine K.seq ?_
      refine K.region ?_
      refine KO.q rfl (q_assign rfl) ?_
      refine KO.done ?_
      refine K.ret (fn := Tryz.f45) Tryz.func45 (fun a w hk hs => res1 Tryz.results45 hk rfl) (fun w hs => ?_)
      exact ⟨_, [], rfl, ⟨by refine congrArg (Value.int .i64) ?_; unfold cmpI; (repeat' split) <;> omega, rfl⟩, hs.fitD⟩
    · refine K.skip <| K.seq ?_
      refine K.region ?_
      refine KO.q rfl (q_assign rfl) ?_
      refine KO.done ?_
      refine K.ret (fn := Tryz.f45) Tryz.func45 (fun a w hk hs => res1 Tryz.results45 hk rfl) (fun w hs => ?_)
      exact ⟨_, [], rfl, ⟨by refine congrArg (Value.int .i64) ?_; unfold cmpI; (repeat' split) <;> omega, rfl⟩, hs.fitD⟩
theorem find_nz {xs : List Int} {i : Nat} {v : Int} (hv : xs[i]? = some v) (h : ∀ x ∈ xs.take i, x = 0) (hne : v ≠ 0) : (xs.find? (fun v => decide (v ≠ 0))).getD 0 = v := by
  have e : xs = xs.take i ++ (v :: xs.drop (i + 1)) := by
    obtain ⟨hi, e⟩ := List.getElem?_eq_some_iff.1 hv
    rw [← e, List.getElem_cons_drop hi, List.take_append_drop]
  rw [e, List.find?_append]
  have : (xs.take i).find? (fun v => decide (v ≠ 0)) = none := by
    rw [List.find?_eq_none]; intro x hx; simp [h x hx]
  rw [this]
  simp [hne]
theorem find_nz_none {xs : List Int} (h : ∀ x ∈ xs, x = 0) : (xs.find? (fun v => decide (v ≠ 0))).getD 0 = 0 := by
  have : xs.find? (fun v => decide (v ≠ 0)) = none := by
    rw [List.find?_eq_none]; intro x hx; simp [h x hx]
  rw [this]; rfl
theorem or_int (q : Option Addr) (cap : Nat) (xs : List Int) (hl : (xs.length : Int) ≤ 9223372036854775807) : Fn Tryz.prog 44 [.slice q xs.length cap].toArray [RowF (Kd.int .i64) q xs] (fun r post => r = .int .i64 ((xs.find? (fun v => decide (v ≠ 0))).getD 0) ∧ post = []) := by
  refine Fn.enter (N := 18) Tryz.func44 rfl Tryz.ntmps44 (by kernel_rfl) rfl (fun ρ L => ?_)
  refine K.seq ?_
  refine K.region ?_
  refine KO.q rfl (q_assign rfl) ?_
  refine KO.done ?_
  refine K.seq ?_
  refine K.region ?_
  refine KO.q rfl (q_assign rfl) ?_
  refine KO.done ?_
  refine K.seq <| K.seq ?_
  refine K.region ?_
  refine KO.q rfl (q_move rfl) ?_
  refine KO.q rfl (q_len Tryz.underlying39 rfl) ?_
  refine KO.q rfl (q_move rfl) ?_
  refine KO.done ?_
  refine K.block ?_
  refine K.rloop (ι := { i : Nat // i ≤ xs.length ∧ ∀ x ∈ xs.take i, x = 0 }) (fun x => [(8, .int .i64 x.1), (7, .int .i64 xs.length), (6, .slice q xs.length cap), (3, .int .i64 0)]) (fun x => xs.length - x.1) ⟨0, Nat.zero_le _, by simp⟩ (by repeat (first | exact Env.sub_nil _ | refine Env.sub_cons rfl ?_)) (fun x ih => ?_)
  obtain ⟨i, hi, hz⟩ := x
  dsimp only at hi hz ⊢
  refine K.seq ?_
  refine K.region ?_
  refine KO.q rfl (q_lt rfl rfl) ?_
  refine KO.done ?_
  refine K.seq ?_
  refine K.dcond (s := 9) rfl (fun g9 => ?_) (fun g9 => ?_)
  · obtain ⟨e, he⟩ : ∃ e, xs[i]? = some e := ⟨_, List.getElem?_eq_getElem (by omega)⟩
    refine K.skip <| K.seq <| K.block <| K.seq ?_
    refine K.region ?_
    first | refine KO.q rfl (q_ix _ se_39 rfl rfl rfl isF (by repeat (first | exact List.Mem.head _ | apply List.Mem.tail)) rfl (by first | assumption | omega | exact (List.getElem?_eq_some_iff.1 (by assumption)).1 | (simp; omega))) ?_ | refine KO.q rfl (q_ix _ se_39 rfl rfl rfl isO (by repeat (first | exact List.Mem.head _ | apply List.Mem.tail)) rfl (by first | assumption | omega | exact (List.getElem?_eq_some_iff.1 (by assumption)).1 | (simp; omega))) ?_
    first | refine KO.q rfl (q_ldE ck_3 rfl isF (by repeat (first | exact List.Mem.head _ | apply List.Mem.tail)) (by first | assumption | exact List.getElem?_eq_getElem (by first | assumption | omega | (simp; omega))) rfl) ?_ | refine KO.q rfl (q_ldE ck_3 rfl isO (by repeat (first | exact List.Mem.head _ | apply List.Mem.tail)) (by first | assumption | exact List.getElem?_eq_getElem (by first | assumption | omega | (simp; omega))) rfl) ?_
    refine KO.q rfl (q_assign rfl) ?_
    refine KO.done ?_
    refine K.seq ?_
    refine K.region ?_
    refine KO.q rfl (q_move rfl) ?_
    refine KO.q rfl (q_move rfl) ?_
    refine KO.q rfl (q_ne rfl rfl) ?_
    refine KO.done ?_
    refine K.dcond (s := 14) rfl (fun g14 => ?_) (fun g14 => ?_)
    · have hr := find_nz he hz g14
      rw [hr]
      refine K.seq ?_
      refine K.region ?_
      refine KO.q rfl (q_move rfl) ?_
      refine KO.q rfl (q_assign rfl) ?_
      refine KO.done ?_
      refine K.ret (fn := Tryz.f44) Tryz.func44 (fun a w hk hs => res1 Tryz.results44 hk rfl) (fun w hs => ?_)
      exact ⟨_, [], rfl, ⟨rfl, rfl⟩, hs.fitD⟩
    · refine K.skip <| K.inBlock ?_
      refine K.region ?_
      refine KO.q rfl (q_add rfl rfl (by first | omega | (simp; omega)) (by first | omega | (simp; omega))) ?_
      refine KO.q rfl (q_move rfl) ?_
      refine KO.done ?_
      exact K.subE (by repeat (first | exact Env.sub_nil _ | refine Env.sub_cons rfl ?_)) (ih ⟨i + 1, by omega, fun x hx => by
        rw [List.take_add_one, he] at hx
        rcases List.mem_append.1 hx with h | h
        · exact hz x h
        · rw [List.mem_singleton.1 h]; exact Decidable.not_not.1 g14⟩ (by show xs.length - (i + 1) < xs.length - i; omega))
  · have hr := find_nz_none (xs := xs) (fun x hx => hz x (by rw [List.take_of_length_le (by omega)]; exact hx))
    rw [hr]
    refine K.exit rfl ?_
    refine K.seq ?_
    refine K.region ?_
    refine KO.q rfl (q_move rfl) ?_
    refine KO.q rfl (q_assign rfl) ?_
    refine KO.done ?_
    refine K.ret (fn := Tryz.f44) Tryz.func44 (fun a w hk hs => res1 Tryz.results44 hk rfl) (fun w hs => ?_)
    exact ⟨_, [], rfl, ⟨rfl, rfl⟩, hs.fitD⟩
/-- Which name is ahead. -/
def cmpN (a b : Nm) : Int := if cmpI a.deep b.deep ≠ 0 then cmpI a.deep b.deep else if cmpB a.object b.object ≠ 0 then cmpB a.object b.object else cmpB a.row b.row
--%call poste/locks.compare := nm_compare _ _
theorem nm_compare (a b : Nm) : Fn Tryz.prog 51 [.agg a.cells.toArray, .agg b.cells.toArray].toArray [] (fun r post => r = .int .i64 (cmpN a b) ∧ post = []) := by
  refine Fn.enter (N := 22) Tryz.func51 rfl Tryz.ntmps51 (by kernel_rfl) rfl (fun ρ L => ?_)
  refine K.seq ?_
  refine K.region ?_
  refine KO.loud rfl (l_box rfl rfl) ?_
  rintro _ _ ⟨b2, rfl, rfl⟩
  refine KO.loud rfl (l_box rfl rfl) ?_
  rintro _ _ ⟨b3, rfl, rfl⟩
  refine KO.q rfl (q_assign rfl) ?_
  refine KO.done ?_
  refine K.seq ?_
  refine K.drawU (by repeat (first | apply SubL.pers | apply SubL.own (b := b2) | apply SubL.own (b := b3) | apply SubL.drop | exact SubL.none)) mixed ?_
  refine D.q 0 rfl (by kernel_rfl) (by kernel_rfl) (q_field fo_31_0 rfl) (fun _ h => h.subD) ?_
  refine D.q 1 rfl (by kernel_rfl) (by kernel_rfl) (q_load1D ck_3 rfl) (fun _ h => h.subD) ?_
  refine D.q 2 rfl (by kernel_rfl) (by kernel_rfl) (q_field fo_31_0 rfl) (fun _ h => h.subD) ?_
  refine D.q 3 rfl (by kernel_rfl) (by kernel_rfl) (q_load1D ck_3 rfl) (fun _ h => h.subD) ?_
  refine D.q 5 rfl (by kernel_rfl) (by kernel_rfl) (q_field fo_31_1 rfl) (fun _ h => h.subD) ?_
  refine D.q 6 rfl (by kernel_rfl) (by kernel_rfl) (q_load1D ck_9 rfl) (fun _ h => h.subD) ?_
  refine D.q 7 rfl (by kernel_rfl) (by kernel_rfl) (q_field fo_31_1 rfl) (fun _ h => h.subD) ?_
  refine D.q 8 rfl (by kernel_rfl) (by kernel_rfl) (q_load1D ck_9 rfl) (fun _ h => h.subD) ?_
  refine D.q 10 rfl (by kernel_rfl) (by kernel_rfl) (q_field fo_31_2 rfl) (fun _ h => h.subD) ?_
  refine D.q 11 rfl (by kernel_rfl) (by kernel_rfl) (q_load1D ck_9 rfl) (fun _ h => h.subD) ?_
  refine D.q 12 rfl (by kernel_rfl) (by kernel_rfl) (q_field fo_31_2 rfl) (fun _ h => h.subD) ?_
  refine D.q 13 rfl (by kernel_rfl) (by kernel_rfl) (q_load1D ck_9 rfl) (fun _ h => h.subD) ?_
  refine D.all (rs := [4]) (by kernel_rfl) rfl (DAll.cons rfl (by kernel_rfl) (OpL.callD rfl (h := cmp_int _ _)) (.inr (by rintro _ _ ⟨_, ⟨rfl, rfl⟩, rfl⟩ w h; exact h.subD)) rfl ?_ DAll.nil)
  rintro _ _ ⟨_, ⟨rfl, rfl⟩, rfl⟩
  refine D.all (rs := [9]) (by kernel_rfl) rfl (DAll.cons rfl (by kernel_rfl) (OpL.callD rfl (h := cmp_str _ _)) (.inr (by rintro _ _ ⟨_, ⟨rfl, rfl⟩, rfl⟩ w h; exact h.subD)) rfl ?_ DAll.nil)
  rintro _ _ ⟨_, ⟨rfl, rfl⟩, rfl⟩
  refine D.all (rs := [14]) (by kernel_rfl) rfl (DAll.cons rfl (by kernel_rfl) (OpL.callD rfl (h := cmp_str _ _)) (.inr (by rintro _ _ ⟨_, ⟨rfl, rfl⟩, rfl⟩ w h; exact h.subD)) rfl ?_ DAll.nil)
  rintro _ _ ⟨_, ⟨rfl, rfl⟩, rfl⟩
  refine D.all (rs := [15]) (by kernel_rfl) rfl (DAll.cons rfl (by kernel_rfl) (l_slice sz_39_3 rfl (by repeat (first | exact Fill.nil | (apply Fill.cons; rfl; rfl; rfl) | exact SetN.nil | apply SetN.cons | exact SetAt.here | apply SetAt.there))) (.inr (by rintro _ _ ⟨b20, rfl, rfl⟩ w h; exact h.subD)) rfl ?_ DAll.nil)
  rintro _ _ ⟨b20, rfl, rfl⟩
  refine D.st (fun w h => pv_ints [cmpI a.deep b.deep, cmpB a.object b.object, cmpB a.row b.row] rfl h) ?_
  refine D.all (rs := [16]) (by kernel_rfl) rfl (DAll.cons rfl (by kernel_rfl) (OpL.callE rfl (or_int (some ⟨b20, 0, none⟩) 3 [cmpI a.deep b.deep, cmpB a.object b.object, cmpB a.row b.row] (by simp))) (.inr (by rintro _ _ ⟨_, ⟨rfl, rfl⟩, rfl⟩ w h; exact h.subD)) rfl ?_ DAll.nil)
  rintro _ _ ⟨_, ⟨rfl, rfl⟩, rfl⟩
  refine D.q 17 rfl (by kernel_rfl) (by kernel_rfl) (q_assign rfl) (fun _ h => h.subD) ?_
  refine D.done (by kernel_rfl) ?_
  refine K.ret (fn := Tryz.f51) Tryz.func51 (fun a w hk hs => res1 Tryz.results51 hk rfl) (fun w hs => ?_)
  refine ⟨_, [], rfl, ⟨?_, rfl⟩, hs.fitD⟩
  refine congrArg (Value.int .i64) ?_
  unfold cmpN
  by_cases h1 : cmpI a.deep b.deep = 0 <;> by_cases h2 : cmpB a.object b.object = 0 <;> by_cases h3 : cmpB a.row b.row = 0 <;> simp [h1, h2, h3]
/-- A name without what is not looked at; false: it is none. -/
def Nm.plain (n : Nm) : Nm × Bool := if n.deep = 0 then (⟨0, ⟨#[]⟩, ⟨#[]⟩⟩, true) else if n.deep = 1 then (⟨1, n.object, ⟨#[]⟩⟩, true) else (n, decide (n.deep = 2))
--%call poste/locks.plain := nm_plain _
theorem nm_plain (n : Nm) : Fn Tryz.prog 21 [.agg n.cells.toArray].toArray [] (fun r post => r = .tuple #[.agg n.plain.1.cells.toArray, .bool n.plain.2] ∧ post = []) := by
  refine Fn.enter (N := 18) Tryz.func21 rfl Tryz.ntmps21 (by kernel_rfl) rfl (fun ρ L => ?_)
  refine K.seq ?_
  refine K.region ?_
  refine KO.loud rfl (l_box rfl rfl) ?_
  rintro _ _ ⟨b1, rfl, rfl⟩
  refine KO.loud rfl (l_alloc zo_31) ?_
  rintro _ _ ⟨b2, rfl, rfl⟩
  refine KO.q rfl (q_assign rfl) ?_
  refine KO.done ?_
  refine K.seq <| K.seq ?_
  refine K.region ?_
  refine KO.q rfl (q_field fo_31_0 rfl) ?_
  refine KO.q rfl (q_load1D ck_3 rfl) ?_
  refine KO.done ?_
  refine K.block <| K.seq ?_
  refine K.region ?_
  refine KO.q rfl (q_eq rfl rfl) ?_
  refine KO.q rfl (q_assign rfl) ?_
  refine KO.done ?_
  refine K.dcond (s := 6) rfl (fun g6 => ?_) (fun g6 => ?_)
  · have hr : n.plain = (⟨0, ⟨#[]⟩, ⟨#[]⟩⟩, true) := by unfold Nm.plain; rw [if_pos g6]
    refine K.seq ?_
    refine K.region ?_
    refine KO.q rfl (q_as_nm (q_build st_31 rfl (by repeat (first | exact Fill.nil | (apply Fill.cons; rfl; rfl; rfl) | exact SetN.nil | apply SetN.cons | exact SetAt.here | apply SetAt.there))) (by rfl)) ?_
    refine KO.loudN rfl (l_storeAll ck_31 rfl rfl ⟨rfl, rfl⟩ (nm_one _) (by repeat (first | exact Pick.here | apply Pick.there))) ?_
    rintro _ _ ⟨rfl, rfl⟩
    refine KO.q rfl (q_assign rfl) ?_
    refine KO.done ?_
    refine K.ret (fn := Tryz.f21) Tryz.func21 (fun a w hk hs => resCT Tryz.results21 hk rfl ck_31 rfl (cells_pv (by repeat (first | exact List.Mem.head _ | apply List.Mem.tail)) w hs) rfl) (fun w hs => ?_)
    rw [hr]
    exact ⟨_, [], rfl, ⟨rfl, rfl⟩, hs.fitD⟩
  · refine K.seq ?_
    refine K.region ?_
    refine KO.q rfl (q_eq rfl rfl) ?_
    refine KO.q rfl (q_assign rfl) ?_
    refine KO.done ?_
    refine K.dcond (s := 9) rfl (fun g9 => ?_) (fun g9 => ?_)
    · have hr : n.plain = (⟨1, n.object, ⟨#[]⟩⟩, true) := by unfold Nm.plain; rw [if_neg g6, if_pos g9]
      refine K.seq ?_
      refine K.region ?_
      refine KO.q rfl (q_field fo_31_1 rfl) ?_
      refine KO.q rfl (q_load1D ck_9 rfl) ?_
      refine KO.q rfl (q_as_nm (q_build st_31 rfl (by repeat (first | exact Fill.nil | (apply Fill.cons; rfl; rfl; rfl) | exact SetN.nil | apply SetN.cons | exact SetAt.here | apply SetAt.there))) (by rfl)) ?_
      refine KO.loudN rfl (l_storeAll ck_31 rfl rfl ⟨rfl, rfl⟩ (nm_one _) (by repeat (first | exact Pick.here | apply Pick.there))) ?_
      rintro _ _ ⟨rfl, rfl⟩
      refine KO.q rfl (q_assign rfl) ?_
      refine KO.done ?_
      refine K.ret (fn := Tryz.f21) Tryz.func21 (fun a w hk hs => resCT Tryz.results21 hk rfl ck_31 rfl (cells_pv (by repeat (first | exact List.Mem.head _ | apply List.Mem.tail)) w hs) rfl) (fun w hs => ?_)
      rw [hr]
      exact ⟨_, [], rfl, ⟨rfl, rfl⟩, hs.fitD⟩
    · have hr : n.plain = (n, decide (n.deep = 2)) := by unfold Nm.plain; rw [if_neg g6, if_neg g9]
      refine K.skip <| K.inBlock <| K.seq ?_
      refine K.drawU (by repeat (first | apply SubL.pers | apply SubL.own (b := b1) | apply SubL.drop | exact SubL.none)) mixed ?_
      refine D.q 0 rfl (by kernel_rfl) (by kernel_rfl) (q_loadN ck_31 rfl rfl (by first | (apply cells_pv; (repeat (first | exact List.Mem.head _ | apply List.Mem.tail))) | (apply cells_fv; (repeat (first | exact List.Mem.head _ | apply List.Mem.tail))))) (fun _ h => h.subD) ?_
      refine D.q 1 rfl (by kernel_rfl) (by kernel_rfl) (q_field fo_31_0 rfl) (fun _ h => h.subD) ?_
      refine D.q 2 rfl (by kernel_rfl) (by kernel_rfl) (q_load1D ck_3 rfl) (fun _ h => h.subD) ?_
      refine D.q 3 rfl (by kernel_rfl) (by kernel_rfl) (q_eq rfl rfl) (fun _ h => h.subD) ?_
      refine D.all (rs := [4]) (by kernel_rfl) rfl (DAll.consN rfl (by kernel_rfl) (l_storeAll ck_31 rfl rfl ⟨rfl, rfl⟩ (nm_one _) (by repeat (first | exact Pick.here | apply Pick.there))) (.inr (by rintro _ _ ⟨rfl, rfl⟩ w h; exact h.subD)) rfl ?_ DAll.nil)
      rintro _ _ ⟨rfl, rfl⟩
      refine D.q 5 rfl (by kernel_rfl) (by kernel_rfl) (q_assign rfl) (fun _ h => h.subD) ?_
      refine D.done (by kernel_rfl) ?_
      refine K.ret (fn := Tryz.f21) Tryz.func21 (fun a w hk hs => resCT Tryz.results21 hk rfl ck_31 rfl (cells_pv (by repeat (first | exact List.Mem.head _ | apply List.Mem.tail)) w hs) rfl) (fun w hs => ?_)
      rw [hr]
      exact ⟨_, [], rfl, ⟨rfl, rfl⟩, hs.fitD⟩
end Go.Proofs.YtcpkcjabmookmaaGreat.L
