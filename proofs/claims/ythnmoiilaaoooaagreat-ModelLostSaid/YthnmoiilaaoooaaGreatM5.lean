/- A transaction is done again. -/
import Derived.Test.YthnmoiilaaoooaaGreatM4
namespace Go.Proofs.YthnmoiilaaoooaaGreat.L
open Go Go.Proofs
attribute [local irreducible] pv fv pt fz RowF RowO rowP old pure_ elA
set_option maxRecDepth 100000
set_option linter.unusedSimpArgs false
set_option linter.unusedVariables false

/-- What is left of deeds when one goes back to a point. -/
def isSave (n : Int) (d : Deed) : Bool := decide (d.req.kind = 4) && decide (d.rn = n)
def backD (l : List Deed) (n : Int) : List Deed := if (l.reverse.dropWhile (fun d => !isSave n d)).isEmpty then l else (l.reverse.dropWhile (fun d => !isSave n d)).reverse
def doD (l : List Deed) (d : Deed) : List Deed := if d.req.kind = 5 then backD l d.req.n else l ++ [d]
theorem backD_sub {l : List Deed} {n : Int} {d : Deed} (h : d ∈ backD l n) : d ∈ l := by
  unfold backD at h
  split at h
  · exact h
  · exact List.mem_reverse.1 ((List.dropWhile_suffix _).subset (List.mem_reverse.1 h))
theorem backD_len (l : List Deed) (n : Int) : (backD l n).length ≤ l.length := by
  unfold backD
  split
  · exact Nat.le_refl _
  · rw [List.length_reverse]
    have := (List.dropWhile_suffix (l := l.reverse) (fun d => !isSave n d)).length_le
    rwa [List.length_reverse] at this
theorem doD_sub {l : List Deed} {d x : Deed} (h : x ∈ doD l d) : x ∈ l ∨ x = d := by
  unfold doD at h
  split at h
  · exact .inl (backD_sub h)
  · simpa using h
theorem doD_len (l : List Deed) (d : Deed) : (doD l d).length ≤ l.length + 1 := by
  unfold doD
  split
  · exact Nat.le_trans (backD_len _ _) (Nat.le_succ _)
  · simp
/-- The deeds that are left, if all reads were right. -/
def runR (s : Stt) : List Deed → List Deed → Option (List Deed)
  | h, [] => some h
  | h, d :: l => if readD s h d = true then runR s (doD h d) l else none
def runS (s : Stt) (l : List Deed) : Stt × Bool :=
  match runR s [] l with
  | none => (⟨0, []⟩, false)
  | some h => ((applyS s (effsD h)).1, decide ((applyS s (effsD h)).2 = 0))
/-- A deed that does, or reads, a row of a table, or marks a point, or goes back to one. -/
def Deed.ok (d : Deed) : Prop := d.err = 0 ∧ (d.req.kind = 4 ∨ d.req.kind = 5 ∨ d.req.kind = 7 ∨ d.req.kind = 8)
theorem effs_put {h : List Deed} (hh : ∀ d ∈ h, d.ok) : ∀ e ∈ effsD h, e.kind = 2 := fun e he => by
  obtain ⟨d, hd, hde⟩ := List.mem_filterMap.1 he
  have hk := (hh d hd).2
  unfold Deed.eff at hde
  rcases hk with hk | hk | hk | hk <;> simp [hk] at hde
  rw [← hde]
set_option maxHeartbeats 3200000 in
theorem mo_run (A : HP) (s : Sz) (n : Nat) (q : Option Addr) (c : Nat) (l : List Deed) (hA : IsRow A Kd.deed q l) (hs : s.good n) (hn : n + l.length ≤ 1000000) (hnx : 1 ≤ s.next) (hok : ∀ d ∈ l, d.ok) (h5 : ∀ d ∈ l, d.req.kind ≠ 5) (hp : ∀ h, runR s.st [] l = some h → ((effsD h).map plOf).Nodup) : Fn Tryz.prog 20 [.agg s.cells.toArray, .slice q l.length c].toArray (A :: StL s)
    (fun r post => ∃ s' : Sz, r = .tuple #[.agg s'.cells.toArray, .bool (runS s.st l).2] ∧ s'.st = (runS s.st l).1 ∧ post = A :: StL s ++ StL s' ∧ s'.good (n + l.length)) := by
  refine Fn.enter (N := 67) Tryz.func20 rfl Tryz.ntmps20 (by kernel_rfl) rfl (fun ρ L => ?_)
  refine K.seq ?_
  refine K.region ?_
  refine KO.loud rfl (l_box rfl rfl) ?_
  rintro _ _ ⟨b2, rfl, rfl⟩
  refine KO.loud rfl (l_alloc zo_24) ?_
  rintro _ _ ⟨b4, rfl, rfl⟩
  refine KO.q rfl (q_assign rfl) ?_
  refine KO.done ?_
  refine K.seq ?_
  refine K.region ?_
  refine KO.q rfl (q_build st_74 rfl (by repeat (first | exact Fill.nil | (apply Fill.cons; rfl; rfl; rfl) | exact SetN.nil | apply SetN.cons | exact SetAt.here | apply SetAt.there))) ?_
  refine KO.loud rfl (l_box rfl rfl) ?_
  rintro _ _ ⟨b12, rfl, rfl⟩
  refine KO.q rfl (q_assign rfl) ?_
  refine KO.done ?_
  refine K.seq <| K.seq ?_
  refine K.region ?_
  refine KO.q rfl (q_move rfl) ?_
  refine KO.q rfl (q_len Tryz.underlying46 rfl) ?_
  refine KO.q rfl (q_move rfl) ?_
  refine KO.done ?_
  refine K.block ?_
  refine K.rounds2 (ι := { x : Nat × List Deed × Option Addr × Nat // x.1 ≤ l.length ∧ runR s.st [] l = runR s.st x.2.1 (l.drop x.1) ∧ (∀ d ∈ x.2.1, d ∈ l) ∧ x.2.1.length ≤ x.1 }) (fun x => [(15, .int .i64 x.1.1), (14, .int .i64 l.length), (13, .slice q l.length c), (6, .pointer (some ⟨b12, 0, none⟩)), (2, .pointer (some ⟨b2, 0, none⟩)), (4, .pointer (some ⟨b4, 0, none⟩))]) (fun x => pv b12 74 [.slice x.1.2.2.1 x.1.2.1.length x.1.2.2.2, .int .i64 0] :: RowO Kd.deed 43 x.1.2.2.1 x.1.2.2.2 x.1.2.1 :: A :: pv b2 24 s.cells :: pv b4 24 [.int .i64 0, .slice none 0 0] :: StL s ++ L) (fun x => l.length - x.1.1) ⟨(0, [], none, 0), Nat.zero_le _, rfl, fun d hd => (by cases hd), Nat.le_refl _⟩ (by repeat (first | exact Env.sub_nil _ | refine Env.sub_cons rfl ?_)) (fun w h => (rowO_nil (k := Kd.deed) 43 (h.fit (M := pv b12 74 [.slice none 0 0, .int .i64 0] :: A :: pv b2 24 s.cells :: pv b4 24 [.int .i64 0, .slice none 0 0] :: StL s) (by repeat (first | exact Give.nil | (apply Give.perI; (repeat (first | exact List.Mem.head _ | apply List.Mem.tail))) | (apply Give.own; (repeat (first | exact Pick.here | apply Pick.there))))) (by repeat (first | exact Drop.refl | apply Drop.skip)))).fitD) (fun x ih => ?_)
  obtain ⟨⟨i, h, qh, ch⟩, hi, hrr, hsub, hlen⟩ := x
  dsimp only at hi hrr hsub hlen ⊢
  have hhok : ∀ d ∈ h, d.ok := fun d hd => hok d (hsub d hd)
  refine K.seq ?_
  refine K.region ?_
  refine KO.q rfl (q_lt rfl rfl) ?_
  refine KO.done ?_
  refine K.seq ?_
  refine K.dcond (s := 16) rfl (fun g16 => ?_) (fun g16 => ?_)
  · obtain ⟨d, hd⟩ : ∃ d, l[i]? = some d := ⟨_, List.getElem?_eq_getElem (by omega)⟩
    have hdl := List.mem_of_getElem? hd
    have hdok := hok d hdl
    have hdr : l.drop i = d :: l.drop (i + 1) := by
      obtain ⟨h1, h2⟩ := List.getElem?_eq_some_iff.1 hd
      rw [← h2, List.getElem_cons_drop h1]
    have hd10 : d.req.kind ≠ 10 := fun e => by have := hdok.2; omega
    have hd11 : d.req.kind ≠ 11 := fun e => by have := hdok.2; omega
    refine K.skip <| K.seq <| K.block <| K.seq ?_
    refine K.region ?_
    refine KO.q rfl (q_ix (xs := l) i se_46 rfl rfl rfl hA (by repeat (first | exact List.Mem.head _ | apply List.Mem.tail)) rfl (by omega)) ?_
    refine KO.q rfl (q_ldEN (xs := l) (enc := Deed.cells) ck_43 rfl hA (by repeat (first | exact List.Mem.head _ | apply List.Mem.tail)) hd) ?_
    refine KO.loud rfl (l_alloc zo_43) ?_
    rintro _ _ ⟨b8, rfl, rfl⟩
    refine KO.loudN rfl (l_storeAll ck_43 rfl rfl ⟨rfl, rfl⟩ (deed_one _) (by repeat (first | exact Pick.here | apply Pick.there))) ?_
    rintro _ _ ⟨rfl, rfl⟩
    refine KO.done ?_
    refine K.seq <| K.seq ?_
    refine K.region ?_
    refine KO.q rfl (q_field fo_43_1 rfl) ?_
    refine KO.q rfl (q_field fo_41_0 rfl) ?_
    refine KO.q rfl (q_load1D ck_37 rfl) ?_
    refine KO.q rfl (q_neF rfl rfl (hdok.1)) ?_
    refine KO.done ?_
    refine K.no rfl ?_
    refine K.skip <| K.seq <| K.seq ?_
    refine K.region ?_
    refine KO.q rfl (q_move rfl) ?_
    refine KO.q rfl (q_loadN ck_24 rfl rfl (by first | (apply cells_pv; (repeat (first | exact List.Mem.head _ | apply List.Mem.tail))) | (apply cells_fv; (repeat (first | exact List.Mem.head _ | apply List.Mem.tail))))) ?_
    refine KO.q rfl (q_loadN ck_43 rfl rfl (by first | (apply cells_pv; (repeat (first | exact List.Mem.head _ | apply List.Mem.tail))) | (apply cells_fv; (repeat (first | exact List.Mem.head _ | apply List.Mem.tail))))) ?_
    refine KO.loud rfl (OpL.callD rfl (h := mo_read (RowO Kd.deed 43 qh ch h) s n b12 qh ch h 0 d isO hs.sm (by omega) (effs_put hhok) hd10)) ?_
    rintro _ _ ⟨_, ⟨rfl, rfl⟩, rfl⟩
    refine KO.q rfl (q_not rfl) ?_
    refine KO.done ?_
    refine K.bcond (s := 27) rfl (fun g27 => ?_) (fun g27 => ?_)
    · have hrd : readD s.st h d = false := by simpa using g27
      have hfin : runS s.st l = (⟨0, []⟩, false) := by unfold runS; rw [hrr, hdr]; unfold runR; rw [if_neg (by rw [hrd]; decide)]
      refine K.seq ?_
      refine K.region ?_
      refine KO.q rfl (q_as_sz (l_ := []) (q_build st_24 rfl (by repeat (first | exact Fill.nil | (apply Fill.cons; rfl; rfl; rfl) | exact SetN.nil | apply SetN.cons | exact SetAt.here | apply SetAt.there))) rfl) ?_
      refine KO.loudN rfl (l_storeAll ck_24 rfl rfl ⟨rfl, rfl⟩ (sz_one _) (by repeat (first | exact Pick.here | apply Pick.there))) ?_
      rintro _ _ ⟨rfl, rfl⟩
      refine KO.q rfl (q_assign rfl) ?_
      refine KO.done ?_
      refine K.ret (fn := Tryz.f20) Tryz.func20 (fun a w hk hs => resCT Tryz.results20 hk rfl ck_24 rfl (cells_pv (by repeat (first | exact List.Mem.head _ | apply List.Mem.tail)) w hs) rfl) (fun w hs => ?_)
      exact ⟨_, A :: StL s ++ StL ⟨0, none, 0, []⟩, rfl, ⟨⟨0, none, 0, []⟩, by rw [hfin], by rw [hfin]; rfl, rfl, Sz.zero_good _⟩, (nestF_nil (rowF_nilA (k := Kd.oz) (hs.fit (M := A :: StL s) (by repeat (first | exact Give.nil | (apply Give.perI; (repeat (first | exact List.Mem.head _ | apply List.Mem.tail))) | (apply Give.own; (repeat (first | exact Pick.here | apply Pick.there))))) (by repeat (first | exact Drop.refl | apply Drop.skip))))).fitD⟩
    · have hrd : readD s.st h d = true := by simpa using g27
      have hstep : runR s.st [] l = runR s.st (doD h d) (l.drop (i + 1)) := by rw [hrr, hdr]; show (if readD s.st h d = true then _ else _) = _; rw [if_pos hrd]
      have hdo : doD h d = h ++ [d] := if_neg (h5 d hdl)
      rw [hdo] at hstep
      refine K.skip ?_
      refine K.region ?_
      refine KO.q rfl (q_move rfl) ?_
      refine KO.q rfl (q_loadN ck_43 rfl rfl (by first | (apply cells_pv; (repeat (first | exact List.Mem.head _ | apply List.Mem.tail))) | (apply cells_fv; (repeat (first | exact List.Mem.head _ | apply List.Mem.tail))))) ?_
      refine KO.loud rfl (OpL.callD rfl (h := mo_do b12 qh ch h 0 d (by omega) (h5 d hdl) hd11)) ?_
      rintro _ _ ⟨_, ⟨qn, cn, rfl, rfl⟩, rfl⟩
      refine KO.done ?_
      refine K.inBlock ?_
      refine K.region ?_
      refine KO.q rfl (q_add rfl rfl (by first | omega | (simp; omega)) (by first | omega | (simp; omega))) ?_
      refine KO.q rfl (q_move rfl) ?_
      refine KO.done ?_
      exact K.weak (by repeat (first | exact Env.sub_nil _ | refine Env.sub_cons rfl ?_)) (fun w h => h.fitD) (ih ⟨(i + 1, h ++ [d], qn, cn), by show i + 1 ≤ _; omega, hstep, fun x hx => by rcases List.mem_append.1 hx with hx | hx; exact hsub x hx; rw [List.mem_singleton.1 hx]; exact hdl, by show (h ++ [d]).length ≤ i + 1; simp; omega⟩ (by show l.length - (i + 1) < l.length - i; omega))
  · obtain rfl : i = l.length := by omega
    have hrr2 : runR s.st [] l = some h := by rw [hrr, List.drop_length]; rfl
    have hfin : runS s.st l = ((applyS s.st (effsD h)).1, decide ((applyS s.st (effsD h)).2 = 0)) := by unfold runS; rw [hrr2]
    have hpl := hp h hrr2
    have hel := effsD_len h
    clear ih
    refine K.exit rfl ?_
    refine K.seq <| K.seq ?_
    refine K.drawS [pv b12 74 [.slice qh h.length ch, .int .i64 0], pv b2 24 s.cells] (fun _ h => h.subD) mixed ?_
    refine D.q 0 rfl (by kernel_rfl) (by kernel_rfl) (q_move rfl) (fun _ h => h.subD) ?_
    refine D.q 1 rfl (by kernel_rfl) (by kernel_rfl) (q_nilCheck rfl) (fun _ h => h.subD) ?_
    refine D.q 2 rfl (by kernel_rfl) (by kernel_rfl) (q_field fo_74_1 rfl) (fun _ h => h.subD) ?_
    refine D.q 3 rfl (by kernel_rfl) (by kernel_rfl) (q_load1D ck_3 rfl) (fun _ h => h.subD) ?_
    refine D.q 4 rfl (by kernel_rfl) (by kernel_rfl) (q_field fo_24_0 rfl) (fun _ h => h.subD) ?_
    refine D.q 5 rfl (by kernel_rfl) (by kernel_rfl) (q_load1D ck_3 rfl) (fun _ h => h.subD) ?_
    refine D.q 6 rfl (by kernel_rfl) (by kernel_rfl) (q_ge rfl rfl) (fun _ h => h.subD) ?_
    refine D.done (by kernel_rfl) ?_
    refine K.dcond (s := 39) rfl (fun g39 => ?_) (fun g39 => ?_)
    · exact absurd g39 (by show ¬ s.next ≤ 0; omega)
    · refine K.skip <| K.seq ?_
      refine K.drawS [pv b2 24 s.cells] (fun _ h => h.subD) mixed ?_
      refine D.q 2 rfl (by kernel_rfl) (by kernel_rfl) (q_move rfl) (fun _ h => h.subD) ?_
      refine D.all (rs := [0, 1, 3]) (by kernel_rfl) rfl (DAll.cons rfl (by kernel_rfl) (OpQ.loud (q_loadN ck_24 rfl rfl (by first | (apply cells_pv; (repeat (first | exact List.Mem.head _ | apply List.Mem.tail))) | (apply cells_fv; (repeat (first | exact List.Mem.head _ | apply List.Mem.tail)))))) (.inr (by rintro _ _ ⟨rfl, rfl⟩ w h; exact h.subD)) rfl ?_ (DAll.cons rfl (by kernel_rfl) (OpQ.loud (q_loadN ck_24 rfl rfl (by first | (apply cells_pv; (repeat (first | exact List.Mem.head _ | apply List.Mem.tail))) | (apply cells_fv; (repeat (first | exact List.Mem.head _ | apply List.Mem.tail)))))) (.inr (by rintro _ _ ⟨rfl, rfl⟩ w h; exact h.subD)) rfl ?_ (DAll.cons rfl (by kernel_rfl) (OpL.callD rfl (h := mo_effects (RowO Kd.deed 43 qh ch h) b12 qh ch h 0 isO (by omega))) (.inl (by kernel_rfl)) rfl ?_ DAll.nil)))
      · rintro _ _ ⟨rfl, rfl⟩
        refine D.all (rs := [1, 3]) (by kernel_rfl) rfl (DAll.cons rfl (by kernel_rfl) (OpQ.loud (q_loadN ck_24 rfl rfl (by first | (apply cells_pv; (repeat (first | exact List.Mem.head _ | apply List.Mem.tail))) | (apply cells_fv; (repeat (first | exact List.Mem.head _ | apply List.Mem.tail)))))) (.inr (by rintro _ _ ⟨rfl, rfl⟩ w h; exact h.subD)) rfl ?_ (DAll.cons rfl (by kernel_rfl) (OpL.callD rfl (h := mo_effects (RowO Kd.deed 43 qh ch h) b12 qh ch h 0 isO (by omega))) (.inl (by kernel_rfl)) rfl ?_ DAll.nil))
        · rintro _ _ ⟨rfl, rfl⟩
          refine D.all (rs := [3]) (by kernel_rfl) rfl (DAll.cons rfl (by kernel_rfl) (OpL.callD rfl (h := mo_effects (RowO Kd.deed 43 qh ch h) b12 qh ch h 0 isO (by omega))) (.inl (by kernel_rfl)) rfl ?_ DAll.nil)
          rintro _ _ ⟨_, ⟨qe, ce, rfl, rfl⟩, rfl⟩
          refine D.all (rs := [4]) (by kernel_rfl) rfl (DAll.cons rfl (by kernel_rfl) (OpL.callD rfl (h := tx_Settle (RowO Kd.eff 80 qe ce (effsD h)) s n qe ce (effsD h) isO hs.sm (by omega) (effs_put hhok) hpl)) (.inl (by kernel_rfl)) rfl ?_ DAll.nil)
          rintro _ _ ⟨_, ⟨qs, cs, rfl, rfl⟩, rfl⟩
          refine D.all (rs := [5]) (by kernel_rfl) rfl (DAll.cons rfl (by kernel_rfl) (OpL.callD rfl (h := st_Apply (RowO Kd.eff 80 qs cs (effsD h)) s n qs cs (effsD h) isO hs (by omega))) (.inl (by kernel_rfl)) rfl ?_ DAll.nil)
          rintro _ _ ⟨_, ⟨s', rfl, hs1, rfl, hs2⟩, rfl⟩
          refine D.q 6 rfl (by kernel_rfl) (by kernel_rfl) (q_move rfl) (fun _ h => h.subD) ?_
          refine D.q 7 rfl (by kernel_rfl) (by kernel_rfl) (q_extract rfl rfl) (fun _ h => h.subD) ?_
          refine D.all (rs := [8, 9]) (by kernel_rfl) rfl (DAll.cons rfl (by kernel_rfl) (OpQ.loud (q_extract rfl rfl)) (.inr (by rintro _ _ ⟨rfl, rfl⟩ w h; exact h.subD)) rfl ?_ (DAll.consN rfl (by kernel_rfl) (l_storeAll ck_24 rfl rfl ⟨rfl, rfl⟩ (sz_one _) (by repeat (first | exact Pick.here | apply Pick.there))) (.inl (by kernel_rfl)) rfl ?_ DAll.nil))
          · rintro _ _ ⟨rfl, rfl⟩
            refine D.all (rs := [9]) (by kernel_rfl) rfl (DAll.consN rfl (by kernel_rfl) (l_storeAll ck_24 rfl rfl ⟨rfl, rfl⟩ (sz_one _) (by repeat (first | exact Pick.here | apply Pick.there))) (.inl (by kernel_rfl)) rfl ?_ DAll.nil)
            rintro _ _ ⟨rfl, rfl⟩
            refine D.all (rs := [10]) (by kernel_rfl) rfl (DAll.cons rfl (by kernel_rfl) (OpQ.loud (q_assign rfl)) (.inl (by kernel_rfl)) rfl ?_ DAll.nil)
            rintro _ _ ⟨rfl, rfl⟩
            refine D.done (by kernel_rfl) ?_
            refine K.seq ?_
            refine K.region ?_
            refine KO.q rfl (q_loadN ck_24 rfl rfl (by first | (apply cells_pv; (repeat (first | exact List.Mem.head _ | apply List.Mem.tail))) | (apply cells_fv; (repeat (first | exact List.Mem.head _ | apply List.Mem.tail))))) ?_
            refine KO.q rfl (q_move rfl) ?_
            refine KO.q rfl (q_eq rfl rfl) ?_
            refine KO.loudN rfl (l_storeAll ck_24 rfl rfl ⟨rfl, rfl⟩ (sz_one _) (by repeat (first | exact Pick.here | apply Pick.there))) ?_
            rintro _ _ ⟨rfl, rfl⟩
            refine KO.q rfl (q_assign rfl) ?_
            refine KO.done ?_
            refine K.ret (fn := Tryz.f20) Tryz.func20 (fun a w hk hs => resCT Tryz.results20 hk rfl ck_24 rfl (cells_pv (by repeat (first | exact List.Mem.head _ | apply List.Mem.tail)) w hs) rfl) (fun w hs => ?_)
            exact ⟨_, A :: StL s ++ StL s', rfl, ⟨s', by rw [hfin], by rw [hfin]; exact hs1, rfl, ⟨hs2.sm.more (by omega), hs2.room, hs2.cap⟩⟩, hs.fitD⟩
          · rintro _ _ ⟨rfl, rfl⟩
            refine D.all (rs := [8]) (by kernel_rfl) rfl (DAll.cons rfl (by kernel_rfl) (OpQ.loud (q_extract rfl rfl)) (.inl (by kernel_rfl)) rfl ?_ DAll.nil)
            rintro _ _ ⟨rfl, rfl⟩
            refine D.all (rs := [10]) (by kernel_rfl) rfl (DAll.cons rfl (by kernel_rfl) (OpQ.loud (q_assign rfl)) (.inl (by kernel_rfl)) rfl ?_ DAll.nil)
            rintro _ _ ⟨rfl, rfl⟩
            refine D.done (by kernel_rfl) ?_
            refine K.seq ?_
            refine K.region ?_
            refine KO.q rfl (q_loadN ck_24 rfl rfl (by first | (apply cells_pv; (repeat (first | exact List.Mem.head _ | apply List.Mem.tail))) | (apply cells_fv; (repeat (first | exact List.Mem.head _ | apply List.Mem.tail))))) ?_
            refine KO.q rfl (q_move rfl) ?_
            refine KO.q rfl (q_eq rfl rfl) ?_
            refine KO.loudN rfl (l_storeAll ck_24 rfl rfl ⟨rfl, rfl⟩ (sz_one _) (by repeat (first | exact Pick.here | apply Pick.there))) ?_
            rintro _ _ ⟨rfl, rfl⟩
            refine KO.q rfl (q_assign rfl) ?_
            refine KO.done ?_
            refine K.ret (fn := Tryz.f20) Tryz.func20 (fun a w hk hs => resCT Tryz.results20 hk rfl ck_24 rfl (cells_pv (by repeat (first | exact List.Mem.head _ | apply List.Mem.tail)) w hs) rfl) (fun w hs => ?_)
            exact ⟨_, A :: StL s ++ StL s', rfl, ⟨s', by rw [hfin], by rw [hfin]; exact hs1, rfl, ⟨hs2.sm.more (by omega), hs2.room, hs2.cap⟩⟩, hs.fitD⟩
        · rintro _ _ ⟨_, ⟨qe, ce, rfl, rfl⟩, rfl⟩
          refine D.all (rs := [1]) (by kernel_rfl) rfl (DAll.cons rfl (by kernel_rfl) (OpQ.loud (q_loadN ck_24 rfl rfl (by first | (apply cells_pv; (repeat (first | exact List.Mem.head _ | apply List.Mem.tail))) | (apply cells_fv; (repeat (first | exact List.Mem.head _ | apply List.Mem.tail)))))) (.inl (by kernel_rfl)) rfl ?_ DAll.nil)
          rintro _ _ ⟨rfl, rfl⟩
          refine D.all (rs := [4]) (by kernel_rfl) rfl (DAll.cons rfl (by kernel_rfl) (OpL.callD rfl (h := tx_Settle (RowO Kd.eff 80 qe ce (effsD h)) s n qe ce (effsD h) isO hs.sm (by omega) (effs_put hhok) hpl)) (.inl (by kernel_rfl)) rfl ?_ DAll.nil)
          rintro _ _ ⟨_, ⟨qs, cs, rfl, rfl⟩, rfl⟩
          refine D.all (rs := [5]) (by kernel_rfl) rfl (DAll.cons rfl (by kernel_rfl) (OpL.callD rfl (h := st_Apply (RowO Kd.eff 80 qs cs (effsD h)) s n qs cs (effsD h) isO hs (by omega))) (.inl (by kernel_rfl)) rfl ?_ DAll.nil)
          rintro _ _ ⟨_, ⟨s', rfl, hs1, rfl, hs2⟩, rfl⟩
          refine D.q 6 rfl (by kernel_rfl) (by kernel_rfl) (q_move rfl) (fun _ h => h.subD) ?_
          refine D.q 7 rfl (by kernel_rfl) (by kernel_rfl) (q_extract rfl rfl) (fun _ h => h.subD) ?_
          refine D.all (rs := [8, 9]) (by kernel_rfl) rfl (DAll.cons rfl (by kernel_rfl) (OpQ.loud (q_extract rfl rfl)) (.inr (by rintro _ _ ⟨rfl, rfl⟩ w h; exact h.subD)) rfl ?_ (DAll.consN rfl (by kernel_rfl) (l_storeAll ck_24 rfl rfl ⟨rfl, rfl⟩ (sz_one _) (by repeat (first | exact Pick.here | apply Pick.there))) (.inl (by kernel_rfl)) rfl ?_ DAll.nil))
          · rintro _ _ ⟨rfl, rfl⟩
            refine D.all (rs := [9]) (by kernel_rfl) rfl (DAll.consN rfl (by kernel_rfl) (l_storeAll ck_24 rfl rfl ⟨rfl, rfl⟩ (sz_one _) (by repeat (first | exact Pick.here | apply Pick.there))) (.inl (by kernel_rfl)) rfl ?_ DAll.nil)
            rintro _ _ ⟨rfl, rfl⟩
            refine D.all (rs := [10]) (by kernel_rfl) rfl (DAll.cons rfl (by kernel_rfl) (OpQ.loud (q_assign rfl)) (.inl (by kernel_rfl)) rfl ?_ DAll.nil)
            rintro _ _ ⟨rfl, rfl⟩
            refine D.done (by kernel_rfl) ?_
            refine K.seq ?_
            refine K.region ?_
            refine KO.q rfl (q_loadN ck_24 rfl rfl (by first | (apply cells_pv; (repeat (first | exact List.Mem.head _ | apply List.Mem.tail))) | (apply cells_fv; (repeat (first | exact List.Mem.head _ | apply List.Mem.tail))))) ?_
            refine KO.q rfl (q_move rfl) ?_
            refine KO.q rfl (q_eq rfl rfl) ?_
            refine KO.loudN rfl (l_storeAll ck_24 rfl rfl ⟨rfl, rfl⟩ (sz_one _) (by repeat (first | exact Pick.here | apply Pick.there))) ?_
            rintro _ _ ⟨rfl, rfl⟩
            refine KO.q rfl (q_assign rfl) ?_
            refine KO.done ?_
            refine K.ret (fn := Tryz.f20) Tryz.func20 (fun a w hk hs => resCT Tryz.results20 hk rfl ck_24 rfl (cells_pv (by repeat (first | exact List.Mem.head _ | apply List.Mem.tail)) w hs) rfl) (fun w hs => ?_)
            exact ⟨_, A :: StL s ++ StL s', rfl, ⟨s', by rw [hfin], by rw [hfin]; exact hs1, rfl, ⟨hs2.sm.more (by omega), hs2.room, hs2.cap⟩⟩, hs.fitD⟩
          · rintro _ _ ⟨rfl, rfl⟩
            refine D.all (rs := [8]) (by kernel_rfl) rfl (DAll.cons rfl (by kernel_rfl) (OpQ.loud (q_extract rfl rfl)) (.inl (by kernel_rfl)) rfl ?_ DAll.nil)
            rintro _ _ ⟨rfl, rfl⟩
            refine D.all (rs := [10]) (by kernel_rfl) rfl (DAll.cons rfl (by kernel_rfl) (OpQ.loud (q_assign rfl)) (.inl (by kernel_rfl)) rfl ?_ DAll.nil)
            rintro _ _ ⟨rfl, rfl⟩
            refine D.done (by kernel_rfl) ?_
            refine K.seq ?_
            refine K.region ?_
            refine KO.q rfl (q_loadN ck_24 rfl rfl (by first | (apply cells_pv; (repeat (first | exact List.Mem.head _ | apply List.Mem.tail))) | (apply cells_fv; (repeat (first | exact List.Mem.head _ | apply List.Mem.tail))))) ?_
            refine KO.q rfl (q_move rfl) ?_
            refine KO.q rfl (q_eq rfl rfl) ?_
            refine KO.loudN rfl (l_storeAll ck_24 rfl rfl ⟨rfl, rfl⟩ (sz_one _) (by repeat (first | exact Pick.here | apply Pick.there))) ?_
            rintro _ _ ⟨rfl, rfl⟩
            refine KO.q rfl (q_assign rfl) ?_
            refine KO.done ?_
            refine K.ret (fn := Tryz.f20) Tryz.func20 (fun a w hk hs => resCT Tryz.results20 hk rfl ck_24 rfl (cells_pv (by repeat (first | exact List.Mem.head _ | apply List.Mem.tail)) w hs) rfl) (fun w hs => ?_)
            exact ⟨_, A :: StL s ++ StL s', rfl, ⟨s', by rw [hfin], by rw [hfin]; exact hs1, rfl, ⟨hs2.sm.more (by omega), hs2.room, hs2.cap⟩⟩, hs.fitD⟩
      · rintro _ _ ⟨rfl, rfl⟩
        refine D.all (rs := [0, 3]) (by kernel_rfl) rfl (DAll.cons rfl (by kernel_rfl) (OpQ.loud (q_loadN ck_24 rfl rfl (by first | (apply cells_pv; (repeat (first | exact List.Mem.head _ | apply List.Mem.tail))) | (apply cells_fv; (repeat (first | exact List.Mem.head _ | apply List.Mem.tail)))))) (.inr (by rintro _ _ ⟨rfl, rfl⟩ w h; exact h.subD)) rfl ?_ (DAll.cons rfl (by kernel_rfl) (OpL.callD rfl (h := mo_effects (RowO Kd.deed 43 qh ch h) b12 qh ch h 0 isO (by omega))) (.inl (by kernel_rfl)) rfl ?_ DAll.nil))
        · rintro _ _ ⟨rfl, rfl⟩
          refine D.all (rs := [3]) (by kernel_rfl) rfl (DAll.cons rfl (by kernel_rfl) (OpL.callD rfl (h := mo_effects (RowO Kd.deed 43 qh ch h) b12 qh ch h 0 isO (by omega))) (.inl (by kernel_rfl)) rfl ?_ DAll.nil)
          rintro _ _ ⟨_, ⟨qe, ce, rfl, rfl⟩, rfl⟩
          refine D.all (rs := [4]) (by kernel_rfl) rfl (DAll.cons rfl (by kernel_rfl) (OpL.callD rfl (h := tx_Settle (RowO Kd.eff 80 qe ce (effsD h)) s n qe ce (effsD h) isO hs.sm (by omega) (effs_put hhok) hpl)) (.inl (by kernel_rfl)) rfl ?_ DAll.nil)
          rintro _ _ ⟨_, ⟨qs, cs, rfl, rfl⟩, rfl⟩
          refine D.all (rs := [5]) (by kernel_rfl) rfl (DAll.cons rfl (by kernel_rfl) (OpL.callD rfl (h := st_Apply (RowO Kd.eff 80 qs cs (effsD h)) s n qs cs (effsD h) isO hs (by omega))) (.inl (by kernel_rfl)) rfl ?_ DAll.nil)
          rintro _ _ ⟨_, ⟨s', rfl, hs1, rfl, hs2⟩, rfl⟩
          refine D.q 6 rfl (by kernel_rfl) (by kernel_rfl) (q_move rfl) (fun _ h => h.subD) ?_
          refine D.q 7 rfl (by kernel_rfl) (by kernel_rfl) (q_extract rfl rfl) (fun _ h => h.subD) ?_
          refine D.all (rs := [8, 9]) (by kernel_rfl) rfl (DAll.cons rfl (by kernel_rfl) (OpQ.loud (q_extract rfl rfl)) (.inr (by rintro _ _ ⟨rfl, rfl⟩ w h; exact h.subD)) rfl ?_ (DAll.consN rfl (by kernel_rfl) (l_storeAll ck_24 rfl rfl ⟨rfl, rfl⟩ (sz_one _) (by repeat (first | exact Pick.here | apply Pick.there))) (.inl (by kernel_rfl)) rfl ?_ DAll.nil))
          · rintro _ _ ⟨rfl, rfl⟩
            refine D.all (rs := [9]) (by kernel_rfl) rfl (DAll.consN rfl (by kernel_rfl) (l_storeAll ck_24 rfl rfl ⟨rfl, rfl⟩ (sz_one _) (by repeat (first | exact Pick.here | apply Pick.there))) (.inl (by kernel_rfl)) rfl ?_ DAll.nil)
            rintro _ _ ⟨rfl, rfl⟩
            refine D.all (rs := [10]) (by kernel_rfl) rfl (DAll.cons rfl (by kernel_rfl) (OpQ.loud (q_assign rfl)) (.inl (by kernel_rfl)) rfl ?_ DAll.nil)
            rintro _ _ ⟨rfl, rfl⟩
            refine D.done (by kernel_rfl) ?_
            refine K.seq ?_
            refine K.region ?_
            refine KO.q rfl (q_loadN ck_24 rfl rfl (by first | (apply cells_pv; (repeat (first | exact List.Mem.head _ | apply List.Mem.tail))) | (apply cells_fv; (repeat (first | exact List.Mem.head _ | apply List.Mem.tail))))) ?_
            refine KO.q rfl (q_move rfl) ?_
            refine KO.q rfl (q_eq rfl rfl) ?_
            refine KO.loudN rfl (l_storeAll ck_24 rfl rfl ⟨rfl, rfl⟩ (sz_one _) (by repeat (first | exact Pick.here | apply Pick.there))) ?_
            rintro _ _ ⟨rfl, rfl⟩
            refine KO.q rfl (q_assign rfl) ?_
            refine KO.done ?_
            refine K.ret (fn := Tryz.f20) Tryz.func20 (fun a w hk hs => resCT Tryz.results20 hk rfl ck_24 rfl (cells_pv (by repeat (first | exact List.Mem.head _ | apply List.Mem.tail)) w hs) rfl) (fun w hs => ?_)
            exact ⟨_, A :: StL s ++ StL s', rfl, ⟨s', by rw [hfin], by rw [hfin]; exact hs1, rfl, ⟨hs2.sm.more (by omega), hs2.room, hs2.cap⟩⟩, hs.fitD⟩
          · rintro _ _ ⟨rfl, rfl⟩
            refine D.all (rs := [8]) (by kernel_rfl) rfl (DAll.cons rfl (by kernel_rfl) (OpQ.loud (q_extract rfl rfl)) (.inl (by kernel_rfl)) rfl ?_ DAll.nil)
            rintro _ _ ⟨rfl, rfl⟩
            refine D.all (rs := [10]) (by kernel_rfl) rfl (DAll.cons rfl (by kernel_rfl) (OpQ.loud (q_assign rfl)) (.inl (by kernel_rfl)) rfl ?_ DAll.nil)
            rintro _ _ ⟨rfl, rfl⟩
            refine D.done (by kernel_rfl) ?_
            refine K.seq ?_
            refine K.region ?_
            refine KO.q rfl (q_loadN ck_24 rfl rfl (by first | (apply cells_pv; (repeat (first | exact List.Mem.head _ | apply List.Mem.tail))) | (apply cells_fv; (repeat (first | exact List.Mem.head _ | apply List.Mem.tail))))) ?_
            refine KO.q rfl (q_move rfl) ?_
            refine KO.q rfl (q_eq rfl rfl) ?_
            refine KO.loudN rfl (l_storeAll ck_24 rfl rfl ⟨rfl, rfl⟩ (sz_one _) (by repeat (first | exact Pick.here | apply Pick.there))) ?_
            rintro _ _ ⟨rfl, rfl⟩
            refine KO.q rfl (q_assign rfl) ?_
            refine KO.done ?_
            refine K.ret (fn := Tryz.f20) Tryz.func20 (fun a w hk hs => resCT Tryz.results20 hk rfl ck_24 rfl (cells_pv (by repeat (first | exact List.Mem.head _ | apply List.Mem.tail)) w hs) rfl) (fun w hs => ?_)
            exact ⟨_, A :: StL s ++ StL s', rfl, ⟨s', by rw [hfin], by rw [hfin]; exact hs1, rfl, ⟨hs2.sm.more (by omega), hs2.room, hs2.cap⟩⟩, hs.fitD⟩
        · rintro _ _ ⟨_, ⟨qe, ce, rfl, rfl⟩, rfl⟩
          refine D.all (rs := [0, 4]) (by kernel_rfl) rfl (DAll.cons rfl (by kernel_rfl) (OpQ.loud (q_loadN ck_24 rfl rfl (by first | (apply cells_pv; (repeat (first | exact List.Mem.head _ | apply List.Mem.tail))) | (apply cells_fv; (repeat (first | exact List.Mem.head _ | apply List.Mem.tail)))))) (.inl (by kernel_rfl)) rfl ?_ (DAll.cons rfl (by kernel_rfl) (OpL.callD rfl (h := tx_Settle (RowO Kd.eff 80 qe ce (effsD h)) s n qe ce (effsD h) isO hs.sm (by omega) (effs_put hhok) hpl)) (.inl (by kernel_rfl)) rfl ?_ DAll.nil))
          · rintro _ _ ⟨rfl, rfl⟩
            refine D.all (rs := [4]) (by kernel_rfl) rfl (DAll.cons rfl (by kernel_rfl) (OpL.callD rfl (h := tx_Settle (RowO Kd.eff 80 qe ce (effsD h)) s n qe ce (effsD h) isO hs.sm (by omega) (effs_put hhok) hpl)) (.inl (by kernel_rfl)) rfl ?_ DAll.nil)
            rintro _ _ ⟨_, ⟨qs, cs, rfl, rfl⟩, rfl⟩
            refine D.all (rs := [5]) (by kernel_rfl) rfl (DAll.cons rfl (by kernel_rfl) (OpL.callD rfl (h := st_Apply (RowO Kd.eff 80 qs cs (effsD h)) s n qs cs (effsD h) isO hs (by omega))) (.inl (by kernel_rfl)) rfl ?_ DAll.nil)
            rintro _ _ ⟨_, ⟨s', rfl, hs1, rfl, hs2⟩, rfl⟩
            refine D.q 6 rfl (by kernel_rfl) (by kernel_rfl) (q_move rfl) (fun _ h => h.subD) ?_
            refine D.q 7 rfl (by kernel_rfl) (by kernel_rfl) (q_extract rfl rfl) (fun _ h => h.subD) ?_
            refine D.all (rs := [8, 9]) (by kernel_rfl) rfl (DAll.cons rfl (by kernel_rfl) (OpQ.loud (q_extract rfl rfl)) (.inr (by rintro _ _ ⟨rfl, rfl⟩ w h; exact h.subD)) rfl ?_ (DAll.consN rfl (by kernel_rfl) (l_storeAll ck_24 rfl rfl ⟨rfl, rfl⟩ (sz_one _) (by repeat (first | exact Pick.here | apply Pick.there))) (.inl (by kernel_rfl)) rfl ?_ DAll.nil))
            · rintro _ _ ⟨rfl, rfl⟩
              refine D.all (rs := [9]) (by kernel_rfl) rfl (DAll.consN rfl (by kernel_rfl) (l_storeAll ck_24 rfl rfl ⟨rfl, rfl⟩ (sz_one _) (by repeat (first | exact Pick.here | apply Pick.there))) (.inl (by kernel_rfl)) rfl ?_ DAll.nil)
              rintro _ _ ⟨rfl, rfl⟩
              refine D.all (rs := [10]) (by kernel_rfl) rfl (DAll.cons rfl (by kernel_rfl) (OpQ.loud (q_assign rfl)) (.inl (by kernel_rfl)) rfl ?_ DAll.nil)
              rintro _ _ ⟨rfl, rfl⟩
              refine D.done (by kernel_rfl) ?_
              refine K.seq ?_
              refine K.region ?_
              refine KO.q rfl (q_loadN ck_24 rfl rfl (by first | (apply cells_pv; (repeat (first | exact List.Mem.head _ | apply List.Mem.tail))) | (apply cells_fv; (repeat (first | exact List.Mem.head _ | apply List.Mem.tail))))) ?_
              refine KO.q rfl (q_move rfl) ?_
              refine KO.q rfl (q_eq rfl rfl) ?_
              refine KO.loudN rfl (l_storeAll ck_24 rfl rfl ⟨rfl, rfl⟩ (sz_one _) (by repeat (first | exact Pick.here | apply Pick.there))) ?_
              rintro _ _ ⟨rfl, rfl⟩
              refine KO.q rfl (q_assign rfl) ?_
              refine KO.done ?_
              refine K.ret (fn := Tryz.f20) Tryz.func20 (fun a w hk hs => resCT Tryz.results20 hk rfl ck_24 rfl (cells_pv (by repeat (first | exact List.Mem.head _ | apply List.Mem.tail)) w hs) rfl) (fun w hs => ?_)
              exact ⟨_, A :: StL s ++ StL s', rfl, ⟨s', by rw [hfin], by rw [hfin]; exact hs1, rfl, ⟨hs2.sm.more (by omega), hs2.room, hs2.cap⟩⟩, hs.fitD⟩
            · rintro _ _ ⟨rfl, rfl⟩
              refine D.all (rs := [8]) (by kernel_rfl) rfl (DAll.cons rfl (by kernel_rfl) (OpQ.loud (q_extract rfl rfl)) (.inl (by kernel_rfl)) rfl ?_ DAll.nil)
              rintro _ _ ⟨rfl, rfl⟩
              refine D.all (rs := [10]) (by kernel_rfl) rfl (DAll.cons rfl (by kernel_rfl) (OpQ.loud (q_assign rfl)) (.inl (by kernel_rfl)) rfl ?_ DAll.nil)
              rintro _ _ ⟨rfl, rfl⟩
              refine D.done (by kernel_rfl) ?_
              refine K.seq ?_
              refine K.region ?_
              refine KO.q rfl (q_loadN ck_24 rfl rfl (by first | (apply cells_pv; (repeat (first | exact List.Mem.head _ | apply List.Mem.tail))) | (apply cells_fv; (repeat (first | exact List.Mem.head _ | apply List.Mem.tail))))) ?_
              refine KO.q rfl (q_move rfl) ?_
              refine KO.q rfl (q_eq rfl rfl) ?_
              refine KO.loudN rfl (l_storeAll ck_24 rfl rfl ⟨rfl, rfl⟩ (sz_one _) (by repeat (first | exact Pick.here | apply Pick.there))) ?_
              rintro _ _ ⟨rfl, rfl⟩
              refine KO.q rfl (q_assign rfl) ?_
              refine KO.done ?_
              refine K.ret (fn := Tryz.f20) Tryz.func20 (fun a w hk hs => resCT Tryz.results20 hk rfl ck_24 rfl (cells_pv (by repeat (first | exact List.Mem.head _ | apply List.Mem.tail)) w hs) rfl) (fun w hs => ?_)
              exact ⟨_, A :: StL s ++ StL s', rfl, ⟨s', by rw [hfin], by rw [hfin]; exact hs1, rfl, ⟨hs2.sm.more (by omega), hs2.room, hs2.cap⟩⟩, hs.fitD⟩
          · rintro _ _ ⟨_, ⟨qs, cs, rfl, rfl⟩, rfl⟩
            refine D.all (rs := [0]) (by kernel_rfl) rfl (DAll.cons rfl (by kernel_rfl) (OpQ.loud (q_loadN ck_24 rfl rfl (by first | (apply cells_pv; (repeat (first | exact List.Mem.head _ | apply List.Mem.tail))) | (apply cells_fv; (repeat (first | exact List.Mem.head _ | apply List.Mem.tail)))))) (.inl (by kernel_rfl)) rfl ?_ DAll.nil)
            rintro _ _ ⟨rfl, rfl⟩
            refine D.all (rs := [5]) (by kernel_rfl) rfl (DAll.cons rfl (by kernel_rfl) (OpL.callD rfl (h := st_Apply (RowO Kd.eff 80 qs cs (effsD h)) s n qs cs (effsD h) isO hs (by omega))) (.inl (by kernel_rfl)) rfl ?_ DAll.nil)
            rintro _ _ ⟨_, ⟨s', rfl, hs1, rfl, hs2⟩, rfl⟩
            refine D.q 6 rfl (by kernel_rfl) (by kernel_rfl) (q_move rfl) (fun _ h => h.subD) ?_
            refine D.q 7 rfl (by kernel_rfl) (by kernel_rfl) (q_extract rfl rfl) (fun _ h => h.subD) ?_
            refine D.all (rs := [8, 9]) (by kernel_rfl) rfl (DAll.cons rfl (by kernel_rfl) (OpQ.loud (q_extract rfl rfl)) (.inr (by rintro _ _ ⟨rfl, rfl⟩ w h; exact h.subD)) rfl ?_ (DAll.consN rfl (by kernel_rfl) (l_storeAll ck_24 rfl rfl ⟨rfl, rfl⟩ (sz_one _) (by repeat (first | exact Pick.here | apply Pick.there))) (.inl (by kernel_rfl)) rfl ?_ DAll.nil))
            · rintro _ _ ⟨rfl, rfl⟩
              refine D.all (rs := [9]) (by kernel_rfl) rfl (DAll.consN rfl (by kernel_rfl) (l_storeAll ck_24 rfl rfl ⟨rfl, rfl⟩ (sz_one _) (by repeat (first | exact Pick.here | apply Pick.there))) (.inl (by kernel_rfl)) rfl ?_ DAll.nil)
              rintro _ _ ⟨rfl, rfl⟩
              refine D.all (rs := [10]) (by kernel_rfl) rfl (DAll.cons rfl (by kernel_rfl) (OpQ.loud (q_assign rfl)) (.inl (by kernel_rfl)) rfl ?_ DAll.nil)
              rintro _ _ ⟨rfl, rfl⟩
              refine D.done (by kernel_rfl) ?_
              refine K.seq ?_
              refine K.region ?_
              refine KO.q rfl (q_loadN ck_24 rfl rfl (by first | (apply cells_pv; (repeat (first | exact List.Mem.head _ | apply List.Mem.tail))) | (apply cells_fv; (repeat (first | exact List.Mem.head _ | apply List.Mem.tail))))) ?_
              refine KO.q rfl (q_move rfl) ?_
              refine KO.q rfl (q_eq rfl rfl) ?_
              refine KO.loudN rfl (l_storeAll ck_24 rfl rfl ⟨rfl, rfl⟩ (sz_one _) (by repeat (first | exact Pick.here | apply Pick.there))) ?_
              rintro _ _ ⟨rfl, rfl⟩
              refine KO.q rfl (q_assign rfl) ?_
              refine KO.done ?_
              refine K.ret (fn := Tryz.f20) Tryz.func20 (fun a w hk hs => resCT Tryz.results20 hk rfl ck_24 rfl (cells_pv (by repeat (first | exact List.Mem.head _ | apply List.Mem.tail)) w hs) rfl) (fun w hs => ?_)
              exact ⟨_, A :: StL s ++ StL s', rfl, ⟨s', by rw [hfin], by rw [hfin]; exact hs1, rfl, ⟨hs2.sm.more (by omega), hs2.room, hs2.cap⟩⟩, hs.fitD⟩
            · rintro _ _ ⟨rfl, rfl⟩
              refine D.all (rs := [8]) (by kernel_rfl) rfl (DAll.cons rfl (by kernel_rfl) (OpQ.loud (q_extract rfl rfl)) (.inl (by kernel_rfl)) rfl ?_ DAll.nil)
              rintro _ _ ⟨rfl, rfl⟩
              refine D.all (rs := [10]) (by kernel_rfl) rfl (DAll.cons rfl (by kernel_rfl) (OpQ.loud (q_assign rfl)) (.inl (by kernel_rfl)) rfl ?_ DAll.nil)
              rintro _ _ ⟨rfl, rfl⟩
              refine D.done (by kernel_rfl) ?_
              refine K.seq ?_
              refine K.region ?_
              refine KO.q rfl (q_loadN ck_24 rfl rfl (by first | (apply cells_pv; (repeat (first | exact List.Mem.head _ | apply List.Mem.tail))) | (apply cells_fv; (repeat (first | exact List.Mem.head _ | apply List.Mem.tail))))) ?_
              refine KO.q rfl (q_move rfl) ?_
              refine KO.q rfl (q_eq rfl rfl) ?_
              refine KO.loudN rfl (l_storeAll ck_24 rfl rfl ⟨rfl, rfl⟩ (sz_one _) (by repeat (first | exact Pick.here | apply Pick.there))) ?_
              rintro _ _ ⟨rfl, rfl⟩
              refine KO.q rfl (q_assign rfl) ?_
              refine KO.done ?_
              refine K.ret (fn := Tryz.f20) Tryz.func20 (fun a w hk hs => resCT Tryz.results20 hk rfl ck_24 rfl (cells_pv (by repeat (first | exact List.Mem.head _ | apply List.Mem.tail)) w hs) rfl) (fun w hs => ?_)
              exact ⟨_, A :: StL s ++ StL s', rfl, ⟨s', by rw [hfin], by rw [hfin]; exact hs1, rfl, ⟨hs2.sm.more (by omega), hs2.room, hs2.cap⟩⟩, hs.fitD⟩
      · rintro _ _ ⟨_, ⟨qe, ce, rfl, rfl⟩, rfl⟩
        refine D.all (rs := [0, 1]) (by kernel_rfl) rfl (DAll.cons rfl (by kernel_rfl) (OpQ.loud (q_loadN ck_24 rfl rfl (by first | (apply cells_pv; (repeat (first | exact List.Mem.head _ | apply List.Mem.tail))) | (apply cells_fv; (repeat (first | exact List.Mem.head _ | apply List.Mem.tail)))))) (.inl (by kernel_rfl)) rfl ?_ (DAll.cons rfl (by kernel_rfl) (OpQ.loud (q_loadN ck_24 rfl rfl (by first | (apply cells_pv; (repeat (first | exact List.Mem.head _ | apply List.Mem.tail))) | (apply cells_fv; (repeat (first | exact List.Mem.head _ | apply List.Mem.tail)))))) (.inl (by kernel_rfl)) rfl ?_ DAll.nil))
        · rintro _ _ ⟨rfl, rfl⟩
          refine D.all (rs := [1]) (by kernel_rfl) rfl (DAll.cons rfl (by kernel_rfl) (OpQ.loud (q_loadN ck_24 rfl rfl (by first | (apply cells_pv; (repeat (first | exact List.Mem.head _ | apply List.Mem.tail))) | (apply cells_fv; (repeat (first | exact List.Mem.head _ | apply List.Mem.tail)))))) (.inl (by kernel_rfl)) rfl ?_ DAll.nil)
          rintro _ _ ⟨rfl, rfl⟩
          refine D.all (rs := [4]) (by kernel_rfl) rfl (DAll.cons rfl (by kernel_rfl) (OpL.callD rfl (h := tx_Settle (RowO Kd.eff 80 qe ce (effsD h)) s n qe ce (effsD h) isO hs.sm (by omega) (effs_put hhok) hpl)) (.inl (by kernel_rfl)) rfl ?_ DAll.nil)
          rintro _ _ ⟨_, ⟨qs, cs, rfl, rfl⟩, rfl⟩
          refine D.all (rs := [5]) (by kernel_rfl) rfl (DAll.cons rfl (by kernel_rfl) (OpL.callD rfl (h := st_Apply (RowO Kd.eff 80 qs cs (effsD h)) s n qs cs (effsD h) isO hs (by omega))) (.inl (by kernel_rfl)) rfl ?_ DAll.nil)
          rintro _ _ ⟨_, ⟨s', rfl, hs1, rfl, hs2⟩, rfl⟩
          refine D.q 6 rfl (by kernel_rfl) (by kernel_rfl) (q_move rfl) (fun _ h => h.subD) ?_
          refine D.q 7 rfl (by kernel_rfl) (by kernel_rfl) (q_extract rfl rfl) (fun _ h => h.subD) ?_
          refine D.all (rs := [8, 9]) (by kernel_rfl) rfl (DAll.cons rfl (by kernel_rfl) (OpQ.loud (q_extract rfl rfl)) (.inr (by rintro _ _ ⟨rfl, rfl⟩ w h; exact h.subD)) rfl ?_ (DAll.consN rfl (by kernel_rfl) (l_storeAll ck_24 rfl rfl ⟨rfl, rfl⟩ (sz_one _) (by repeat (first | exact Pick.here | apply Pick.there))) (.inl (by kernel_rfl)) rfl ?_ DAll.nil))
          · rintro _ _ ⟨rfl, rfl⟩
            refine D.all (rs := [9]) (by kernel_rfl) rfl (DAll.consN rfl (by kernel_rfl) (l_storeAll ck_24 rfl rfl ⟨rfl, rfl⟩ (sz_one _) (by repeat (first | exact Pick.here | apply Pick.there))) (.inl (by kernel_rfl)) rfl ?_ DAll.nil)
            rintro _ _ ⟨rfl, rfl⟩
            refine D.all (rs := [10]) (by kernel_rfl) rfl (DAll.cons rfl (by kernel_rfl) (OpQ.loud (q_assign rfl)) (.inl (by kernel_rfl)) rfl ?_ DAll.nil)
            rintro _ _ ⟨rfl, rfl⟩
            refine D.done (by kernel_rfl) ?_
            refine K.seq ?_
            refine K.region ?_
            refine KO.q rfl (q_loadN ck_24 rfl rfl (by first | (apply cells_pv; (repeat (first | exact List.Mem.head _ | apply List.Mem.tail))) | (apply cells_fv; (repeat (first | exact List.Mem.head _ | apply List.Mem.tail))))) ?_
            refine KO.q rfl (q_move rfl) ?_
            refine KO.q rfl (q_eq rfl rfl) ?_
            refine KO.loudN rfl (l_storeAll ck_24 rfl rfl ⟨rfl, rfl⟩ (sz_one _) (by repeat (first | exact Pick.here | apply Pick.there))) ?_
            rintro _ _ ⟨rfl, rfl⟩
            refine KO.q rfl (q_assign rfl) ?_
            refine KO.done ?_
            refine K.ret (fn := Tryz.f20) Tryz.func20 (fun a w hk hs => resCT Tryz.results20 hk rfl ck_24 rfl (cells_pv (by repeat (first | exact List.Mem.head _ | apply List.Mem.tail)) w hs) rfl) (fun w hs => ?_)
            exact ⟨_, A :: StL s ++ StL s', rfl, ⟨s', by rw [hfin], by rw [hfin]; exact hs1, rfl, ⟨hs2.sm.more (by omega), hs2.room, hs2.cap⟩⟩, hs.fitD⟩
          · rintro _ _ ⟨rfl, rfl⟩
            refine D.all (rs := [8]) (by kernel_rfl) rfl (DAll.cons rfl (by kernel_rfl) (OpQ.loud (q_extract rfl rfl)) (.inl (by kernel_rfl)) rfl ?_ DAll.nil)
            rintro _ _ ⟨rfl, rfl⟩
            refine D.all (rs := [10]) (by kernel_rfl) rfl (DAll.cons rfl (by kernel_rfl) (OpQ.loud (q_assign rfl)) (.inl (by kernel_rfl)) rfl ?_ DAll.nil)
            rintro _ _ ⟨rfl, rfl⟩
            refine D.done (by kernel_rfl) ?_
            refine K.seq ?_
            refine K.region ?_
            refine KO.q rfl (q_loadN ck_24 rfl rfl (by first | (apply cells_pv; (repeat (first | exact List.Mem.head _ | apply List.Mem.tail))) | (apply cells_fv; (repeat (first | exact List.Mem.head _ | apply List.Mem.tail))))) ?_
            refine KO.q rfl (q_move rfl) ?_
            refine KO.q rfl (q_eq rfl rfl) ?_
            refine KO.loudN rfl (l_storeAll ck_24 rfl rfl ⟨rfl, rfl⟩ (sz_one _) (by repeat (first | exact Pick.here | apply Pick.there))) ?_
            rintro _ _ ⟨rfl, rfl⟩
            refine KO.q rfl (q_assign rfl) ?_
            refine KO.done ?_
            refine K.ret (fn := Tryz.f20) Tryz.func20 (fun a w hk hs => resCT Tryz.results20 hk rfl ck_24 rfl (cells_pv (by repeat (first | exact List.Mem.head _ | apply List.Mem.tail)) w hs) rfl) (fun w hs => ?_)
            exact ⟨_, A :: StL s ++ StL s', rfl, ⟨s', by rw [hfin], by rw [hfin]; exact hs1, rfl, ⟨hs2.sm.more (by omega), hs2.room, hs2.cap⟩⟩, hs.fitD⟩
        · rintro _ _ ⟨rfl, rfl⟩
          refine D.all (rs := [0, 4]) (by kernel_rfl) rfl (DAll.cons rfl (by kernel_rfl) (OpQ.loud (q_loadN ck_24 rfl rfl (by first | (apply cells_pv; (repeat (first | exact List.Mem.head _ | apply List.Mem.tail))) | (apply cells_fv; (repeat (first | exact List.Mem.head _ | apply List.Mem.tail)))))) (.inl (by kernel_rfl)) rfl ?_ (DAll.cons rfl (by kernel_rfl) (OpL.callD rfl (h := tx_Settle (RowO Kd.eff 80 qe ce (effsD h)) s n qe ce (effsD h) isO hs.sm (by omega) (effs_put hhok) hpl)) (.inl (by kernel_rfl)) rfl ?_ DAll.nil))
          · rintro _ _ ⟨rfl, rfl⟩
            refine D.all (rs := [4]) (by kernel_rfl) rfl (DAll.cons rfl (by kernel_rfl) (OpL.callD rfl (h := tx_Settle (RowO Kd.eff 80 qe ce (effsD h)) s n qe ce (effsD h) isO hs.sm (by omega) (effs_put hhok) hpl)) (.inl (by kernel_rfl)) rfl ?_ DAll.nil)
            rintro _ _ ⟨_, ⟨qs, cs, rfl, rfl⟩, rfl⟩
            refine D.all (rs := [5]) (by kernel_rfl) rfl (DAll.cons rfl (by kernel_rfl) (OpL.callD rfl (h := st_Apply (RowO Kd.eff 80 qs cs (effsD h)) s n qs cs (effsD h) isO hs (by omega))) (.inl (by kernel_rfl)) rfl ?_ DAll.nil)
            rintro _ _ ⟨_, ⟨s', rfl, hs1, rfl, hs2⟩, rfl⟩
            refine D.q 6 rfl (by kernel_rfl) (by kernel_rfl) (q_move rfl) (fun _ h => h.subD) ?_
            refine D.q 7 rfl (by kernel_rfl) (by kernel_rfl) (q_extract rfl rfl) (fun _ h => h.subD) ?_
            refine D.all (rs := [8, 9]) (by kernel_rfl) rfl (DAll.cons rfl (by kernel_rfl) (OpQ.loud (q_extract rfl rfl)) (.inr (by rintro _ _ ⟨rfl, rfl⟩ w h; exact h.subD)) rfl ?_ (DAll.consN rfl (by kernel_rfl) (l_storeAll ck_24 rfl rfl ⟨rfl, rfl⟩ (sz_one _) (by repeat (first | exact Pick.here | apply Pick.there))) (.inl (by kernel_rfl)) rfl ?_ DAll.nil))
            · rintro _ _ ⟨rfl, rfl⟩
              refine D.all (rs := [9]) (by kernel_rfl) rfl (DAll.consN rfl (by kernel_rfl) (l_storeAll ck_24 rfl rfl ⟨rfl, rfl⟩ (sz_one _) (by repeat (first | exact Pick.here | apply Pick.there))) (.inl (by kernel_rfl)) rfl ?_ DAll.nil)
              rintro _ _ ⟨rfl, rfl⟩
              refine D.all (rs := [10]) (by kernel_rfl) rfl (DAll.cons rfl (by kernel_rfl) (OpQ.loud (q_assign rfl)) (.inl (by kernel_rfl)) rfl ?_ DAll.nil)
              rintro _ _ ⟨rfl, rfl⟩
              refine D.done (by kernel_rfl) ?_
              refine K.seq ?_
              refine K.region ?_
              refine KO.q rfl (q_loadN ck_24 rfl rfl (by first | (apply cells_pv; (repeat (first | exact List.Mem.head _ | apply List.Mem.tail))) | (apply cells_fv; (repeat (first | exact List.Mem.head _ | apply List.Mem.tail))))) ?_
              refine KO.q rfl (q_move rfl) ?_
              refine KO.q rfl (q_eq rfl rfl) ?_
              refine KO.loudN rfl (l_storeAll ck_24 rfl rfl ⟨rfl, rfl⟩ (sz_one _) (by repeat (first | exact Pick.here | apply Pick.there))) ?_
              rintro _ _ ⟨rfl, rfl⟩
              refine KO.q rfl (q_assign rfl) ?_
              refine KO.done ?_
              refine K.ret (fn := Tryz.f20) Tryz.func20 (fun a w hk hs => resCT Tryz.results20 hk rfl ck_24 rfl (cells_pv (by repeat (first | exact List.Mem.head _ | apply List.Mem.tail)) w hs) rfl) (fun w hs => ?_)
              exact ⟨_, A :: StL s ++ StL s', rfl, ⟨s', by rw [hfin], by rw [hfin]; exact hs1, rfl, ⟨hs2.sm.more (by omega), hs2.room, hs2.cap⟩⟩, hs.fitD⟩
            · rintro _ _ ⟨rfl, rfl⟩
              refine D.all (rs := [8]) (by kernel_rfl) rfl (DAll.cons rfl (by kernel_rfl) (OpQ.loud (q_extract rfl rfl)) (.inl (by kernel_rfl)) rfl ?_ DAll.nil)
              rintro _ _ ⟨rfl, rfl⟩
              refine D.all (rs := [10]) (by kernel_rfl) rfl (DAll.cons rfl (by kernel_rfl) (OpQ.loud (q_assign rfl)) (.inl (by kernel_rfl)) rfl ?_ DAll.nil)
              rintro _ _ ⟨rfl, rfl⟩
              refine D.done (by kernel_rfl) ?_
              refine K.seq ?_
              refine K.region ?_
              refine KO.q rfl (q_loadN ck_24 rfl rfl (by first | (apply cells_pv; (repeat (first | exact List.Mem.head _ | apply List.Mem.tail))) | (apply cells_fv; (repeat (first | exact List.Mem.head _ | apply List.Mem.tail))))) ?_
              refine KO.q rfl (q_move rfl) ?_
              refine KO.q rfl (q_eq rfl rfl) ?_
              refine KO.loudN rfl (l_storeAll ck_24 rfl rfl ⟨rfl, rfl⟩ (sz_one _) (by repeat (first | exact Pick.here | apply Pick.there))) ?_
              rintro _ _ ⟨rfl, rfl⟩
              refine KO.q rfl (q_assign rfl) ?_
              refine KO.done ?_
              refine K.ret (fn := Tryz.f20) Tryz.func20 (fun a w hk hs => resCT Tryz.results20 hk rfl ck_24 rfl (cells_pv (by repeat (first | exact List.Mem.head _ | apply List.Mem.tail)) w hs) rfl) (fun w hs => ?_)
              exact ⟨_, A :: StL s ++ StL s', rfl, ⟨s', by rw [hfin], by rw [hfin]; exact hs1, rfl, ⟨hs2.sm.more (by omega), hs2.room, hs2.cap⟩⟩, hs.fitD⟩
          · rintro _ _ ⟨_, ⟨qs, cs, rfl, rfl⟩, rfl⟩
            refine D.all (rs := [0]) (by kernel_rfl) rfl (DAll.cons rfl (by kernel_rfl) (OpQ.loud (q_loadN ck_24 rfl rfl (by first | (apply cells_pv; (repeat (first | exact List.Mem.head _ | apply List.Mem.tail))) | (apply cells_fv; (repeat (first | exact List.Mem.head _ | apply List.Mem.tail)))))) (.inl (by kernel_rfl)) rfl ?_ DAll.nil)
            rintro _ _ ⟨rfl, rfl⟩
            refine D.all (rs := [5]) (by kernel_rfl) rfl (DAll.cons rfl (by kernel_rfl) (OpL.callD rfl (h := st_Apply (RowO Kd.eff 80 qs cs (effsD h)) s n qs cs (effsD h) isO hs (by omega))) (.inl (by kernel_rfl)) rfl ?_ DAll.nil)
            rintro _ _ ⟨_, ⟨s', rfl, hs1, rfl, hs2⟩, rfl⟩
            refine D.q 6 rfl (by kernel_rfl) (by kernel_rfl) (q_move rfl) (fun _ h => h.subD) ?_
            refine D.q 7 rfl (by kernel_rfl) (by kernel_rfl) (q_extract rfl rfl) (fun _ h => h.subD) ?_
            refine D.all (rs := [8, 9]) (by kernel_rfl) rfl (DAll.cons rfl (by kernel_rfl) (OpQ.loud (q_extract rfl rfl)) (.inr (by rintro _ _ ⟨rfl, rfl⟩ w h; exact h.subD)) rfl ?_ (DAll.consN rfl (by kernel_rfl) (l_storeAll ck_24 rfl rfl ⟨rfl, rfl⟩ (sz_one _) (by repeat (first | exact Pick.here | apply Pick.there))) (.inl (by kernel_rfl)) rfl ?_ DAll.nil))
            · rintro _ _ ⟨rfl, rfl⟩
              refine D.all (rs := [9]) (by kernel_rfl) rfl (DAll.consN rfl (by kernel_rfl) (l_storeAll ck_24 rfl rfl ⟨rfl, rfl⟩ (sz_one _) (by repeat (first | exact Pick.here | apply Pick.there))) (.inl (by kernel_rfl)) rfl ?_ DAll.nil)
              rintro _ _ ⟨rfl, rfl⟩
              refine D.all (rs := [10]) (by kernel_rfl) rfl (DAll.cons rfl (by kernel_rfl) (OpQ.loud (q_assign rfl)) (.inl (by kernel_rfl)) rfl ?_ DAll.nil)
              rintro _ _ ⟨rfl, rfl⟩
              refine D.done (by kernel_rfl) ?_
              refine K.seq ?_
              refine K.region ?_
              refine KO.q rfl (q_loadN ck_24 rfl rfl (by first | (apply cells_pv; (repeat (first | exact List.Mem.head _ | apply List.Mem.tail))) | (apply cells_fv; (repeat (first | exact List.Mem.head _ | apply List.Mem.tail))))) ?_
              refine KO.q rfl (q_move rfl) ?_
              refine KO.q rfl (q_eq rfl rfl) ?_
              refine KO.loudN rfl (l_storeAll ck_24 rfl rfl ⟨rfl, rfl⟩ (sz_one _) (by repeat (first | exact Pick.here | apply Pick.there))) ?_
              rintro _ _ ⟨rfl, rfl⟩
              refine KO.q rfl (q_assign rfl) ?_
              refine KO.done ?_
              refine K.ret (fn := Tryz.f20) Tryz.func20 (fun a w hk hs => resCT Tryz.results20 hk rfl ck_24 rfl (cells_pv (by repeat (first | exact List.Mem.head _ | apply List.Mem.tail)) w hs) rfl) (fun w hs => ?_)
              exact ⟨_, A :: StL s ++ StL s', rfl, ⟨s', by rw [hfin], by rw [hfin]; exact hs1, rfl, ⟨hs2.sm.more (by omega), hs2.room, hs2.cap⟩⟩, hs.fitD⟩
            · rintro _ _ ⟨rfl, rfl⟩
              refine D.all (rs := [8]) (by kernel_rfl) rfl (DAll.cons rfl (by kernel_rfl) (OpQ.loud (q_extract rfl rfl)) (.inl (by kernel_rfl)) rfl ?_ DAll.nil)
              rintro _ _ ⟨rfl, rfl⟩
              refine D.all (rs := [10]) (by kernel_rfl) rfl (DAll.cons rfl (by kernel_rfl) (OpQ.loud (q_assign rfl)) (.inl (by kernel_rfl)) rfl ?_ DAll.nil)
              rintro _ _ ⟨rfl, rfl⟩
              refine D.done (by kernel_rfl) ?_
              refine K.seq ?_
              refine K.region ?_
              refine KO.q rfl (q_loadN ck_24 rfl rfl (by first | (apply cells_pv; (repeat (first | exact List.Mem.head _ | apply List.Mem.tail))) | (apply cells_fv; (repeat (first | exact List.Mem.head _ | apply List.Mem.tail))))) ?_
              refine KO.q rfl (q_move rfl) ?_
              refine KO.q rfl (q_eq rfl rfl) ?_
              refine KO.loudN rfl (l_storeAll ck_24 rfl rfl ⟨rfl, rfl⟩ (sz_one _) (by repeat (first | exact Pick.here | apply Pick.there))) ?_
              rintro _ _ ⟨rfl, rfl⟩
              refine KO.q rfl (q_assign rfl) ?_
              refine KO.done ?_
              refine K.ret (fn := Tryz.f20) Tryz.func20 (fun a w hk hs => resCT Tryz.results20 hk rfl ck_24 rfl (cells_pv (by repeat (first | exact List.Mem.head _ | apply List.Mem.tail)) w hs) rfl) (fun w hs => ?_)
              exact ⟨_, A :: StL s ++ StL s', rfl, ⟨s', by rw [hfin], by rw [hfin]; exact hs1, rfl, ⟨hs2.sm.more (by omega), hs2.room, hs2.cap⟩⟩, hs.fitD⟩
end Go.Proofs.YthnmoiilaaoooaaGreat.L
