/- What a transaction sees. -/
import Derived.Test.YthnmoiilaaoooaaGreatM1
namespace Go.Proofs.YthnmoiilaaoooaaGreat.L
open Go Go.Proofs
attribute [local irreducible] pv fv pt fz RowF RowO rowP old pure_ elA
set_option maxRecDepth 100000
set_option linter.unusedSimpArgs false
set_option linter.unusedVariables false

def getR (l : List Rw) (key : ByteArray) : ByteArray × Bool := if fndR l key = true then ((l.getD (lbR l key) ⟨⟨#[]⟩, ⟨#[]⟩⟩).value, true) else (⟨#[]⟩, false)
theorem rw_Get (q : Option Addr) (cap : Nat) (l : List Rw) (key : ByteArray) (hl : l.length ≤ 1000000000) : Fn Tryz.prog 43 [.slice q l.length cap, .string key].toArray [RowF Kd.rw q l] (fun v post => v = .tuple #[.string (getR l key).1, .bool (getR l key).2] ∧ post = []) := by
  refine Fn.enter (N := 21) Tryz.func43 rfl Tryz.ntmps43 (by kernel_rfl) rfl (fun ρ L => ?_)
  refine K.seq ?_
  refine K.region ?_
  refine KO.q rfl (q_assign rfl) ?_
  refine KO.q rfl (q_assign rfl) ?_
  refine KO.done ?_
  refine K.seq ?_
  refine K.region ?_
  refine KO.q rfl (q_move rfl) ?_
  refine KO.q rfl (q_move rfl) ?_
  refine KO.loud rfl (OpL.callD rfl (h := nd_Find _ _ _ _ (by assumption))) ?_
  rintro _ _ ⟨_, ⟨rfl, rfl⟩, rfl⟩
  refine KO.q rfl (q_move rfl) ?_
  refine KO.q rfl (q_extract rfl rfl) ?_
  refine KO.q rfl (q_extract rfl rfl) ?_
  refine KO.q rfl (q_assign rfl) ?_
  refine KO.q rfl (q_assign rfl) ?_
  refine KO.done ?_
  refine K.seq <| K.seq ?_
  refine K.region ?_
  refine KO.q rfl (q_move rfl) ?_
  refine KO.q rfl (q_not rfl) ?_
  refine KO.done ?_
  refine K.bcond (s := 15) rfl (fun g15 => ?_) (fun g15 => ?_)
  · have hr : getR l key = (⟨#[]⟩, false) := by unfold getR; rw [if_neg (by rw [show fndR l key = false by simpa using g15]; decide)]
    refine K.seq ?_
    refine K.region ?_
    refine KO.q rfl (q_assign rfl) ?_
    refine KO.q rfl (q_assign rfl) ?_
    refine KO.done ?_
    refine K.ret (fn := Tryz.f43) Tryz.func43 (fun a w hk hs => res2 Tryz.results43 hk rfl rfl) (fun w hs => ?_)
    rw [hr]
    exact ⟨_, [], rfl, ⟨rfl, rfl⟩, hs.fitD⟩
  · have hf : fndR l key = true := by simpa using g15
    have hlt := fndR_lt hf
    obtain ⟨r, hrr⟩ : ∃ r, l[lbR l key]? = some r := ⟨_, List.getElem?_eq_getElem hlt⟩
    have hr : getR l key = (r.value, true) := by unfold getR; rw [if_pos hf, gd_at hrr]
    refine K.skip <| K.seq ?_
    refine K.region ?_
    refine KO.q rfl (q_move rfl) ?_
    refine KO.q rfl (q_move rfl) ?_
    refine KO.q rfl (q_ix (xs := l) (lbR l key) se_30 rfl rfl rfl isF (by repeat (first | exact List.Mem.head _ | apply List.Mem.tail)) rfl hlt) ?_
    refine KO.q rfl (q_fieldE fo_29_1 rfl) ?_
    refine KO.q rfl (q_ldE (xs := l) ck_9 rfl isF (by repeat (first | exact List.Mem.head _ | apply List.Mem.tail)) hrr rfl) ?_
    refine KO.q rfl (q_assign rfl) ?_
    refine KO.q rfl (q_assign rfl) ?_
    refine KO.done ?_
    refine K.ret (fn := Tryz.f43) Tryz.func43 (fun a w hk hs => res2 Tryz.results43 hk rfl rfl) (fun w hs => ?_)
    rw [hr]
    exact ⟨_, [], rfl, ⟨rfl, rfl⟩, hs.fitD⟩
def rowsS (s : Stt) (name : ByteArray) : List Rw := if findO s name < 0 then [] else (s.objs.getD (findO s name).toNat Ob.zero).rows
def putT (name : ByteArray) (l : List Rw) (e : Eff) : List Rw := if e.object = name then putR l ⟨e.key, e.value⟩ else l
def tblS (s : Stt) (w : List Eff) (name : ByteArray) : List Rw := w.foldl (putT name) (rowsS s name)
theorem putR_le (l : List Rw) (r : Rw) : (putR l r).length ≤ l.length + 1 := by
  unfold putR
  split
  · rw [List.length_set]; omega
  · exact insAt_le _ _ _
theorem putT_le (name : ByteArray) (l : List Rw) (e : Eff) : (putT name l e).length ≤ l.length + 1 := by
  unfold putT
  split
  · exact putR_le _ _
  · omega
theorem tblS_succ {w : List Eff} {i : Nat} {e : Eff} (h : w[i]? = some e) (l : List Rw) (name : ByteArray) : (w.take (i + 1)).foldl (putT name) l = putT name ((w.take i).foldl (putT name) l) e := by
  rw [List.take_add_one, h, List.foldl_append]; rfl
theorem tblS_le (name : ByteArray) : ∀ (w : List Eff) (l : List Rw), (w.foldl (putT name) l).length ≤ l.length + w.length := by
  intro w
  induction w with
  | nil => intro l; simp
  | cons e w ih =>
    intro l
    have h1 := ih (putT name l e)
    have h2 := putT_le name l e
    simp only [List.foldl_cons, List.length_cons]
    omega
theorem rowsS_le {s : Sz} {n : Nat} (h : s.st.small n) (name : ByteArray) : (rowsS s.st name).length ≤ n := by
  unfold rowsS
  split
  · exact Nat.zero_le _
  · rename_i hn
    obtain ⟨i, o, ho, hi, hg⟩ := findO_nat hn
    rw [hg]
    exact (h.oz (List.mem_of_getElem? ho)).2.1
set_option maxHeartbeats 1600000 in
theorem tx_table (A : HP) (s : Sz) (n : Nat) (q : Option Addr) (c : Nat) (ef : List Eff) (name : ByteArray) (hA : IsRow A Kd.eff q ef) (hs : s.st.small n) (hn : n + ef.length ≤ 100000000) (hw : ∀ e ∈ ef, e.kind = 2) : Fn Tryz.prog 44 [.agg s.cells.toArray, .slice q ef.length c, .string name].toArray (A :: StL s)
    (fun r post => ∃ q' c', r = .slice q' (tblS s.st ef name).length c' ∧ post = A :: RowF Kd.rw q' (tblS s.st ef name) :: StL s) := by
  have hlen := Sz.len_of hs
  have hrl := rowsS_le hs name
  refine Fn.enter (N := 54) Tryz.func44 rfl Tryz.ntmps44 (by kernel_rfl) rfl (fun ρ L => ?_)
  refine K.seq ?_
  refine K.region ?_
  refine KO.loud rfl (l_box rfl rfl) ?_
  rintro _ _ ⟨b3, rfl, rfl⟩
  refine KO.q rfl (q_assign rfl) ?_
  refine KO.done ?_
  refine K.seq ?_
  refine K.region ?_
  refine KO.q rfl (q_assign rfl) ?_
  refine KO.done ?_
  refine K.seq <| K.seq ?_
  refine K.region ?_
  refine KO.q rfl (q_loadN ck_24 rfl rfl (by first | (apply cells_pv; (repeat (first | exact List.Mem.head _ | apply List.Mem.tail))) | (apply cells_fv; (repeat (first | exact List.Mem.head _ | apply List.Mem.tail))))) ?_
  refine KO.q rfl (q_move rfl) ?_
  refine KO.loud rfl (OpL.callD rfl (h := st_Find (RowF Kd.oz s.q s.l) s name isF hlen)) ?_
  rintro _ _ ⟨_, ⟨rfl, rfl⟩, rfl⟩
  refine KO.q rfl (q_assign rfl) ?_
  refine KO.done ?_
  refine K.seq ?_
  refine K.region ?_
  refine KO.q rfl (q_move rfl) ?_
  refine KO.q rfl (q_ge rfl rfl) ?_
  refine KO.done ?_
  refine K.dcond (s := 15) rfl (fun g15 => ?_) (fun g15 => ?_)
  · replace g15 : 0 ≤ findO s.st name := g15
    obtain ⟨i, o, ho, hi, hg⟩ := findO_nat (show ¬ findO s.st name < 0 by omega)
    have hrs : rowsS s.st name = o.x.rows := by unfold rowsS; rw [if_neg (by omega), hg]
    have hil := (List.getElem?_eq_some_iff.1 ho).1
    refine K.st (fun w h => nestF_at (l := s.l) (by repeat (first | exact List.Mem.head _ | apply List.Mem.tail)) (List.mem_of_getElem? ho) h) ?_
    refine K.region ?_
    refine KO.q rfl (q_field fo_24_1 rfl) ?_
    refine KO.q rfl (q_load1D ck_22 rfl) ?_
    refine KO.q rfl (q_move rfl) ?_
    refine KO.q rfl (q_ix (xs := s.l) i se_22 rfl rfl hi isF (by repeat (first | exact List.Mem.head _ | apply List.Mem.tail)) rfl hil) ?_
    refine KO.q rfl (q_fieldE fo_33_3 rfl) ?_
    refine KO.q rfl (q_ldE (xs := s.l) ck_30 rfl isF (by repeat (first | exact List.Mem.head _ | apply List.Mem.tail)) ho rfl) ?_
    refine KO.q rfl (q_assign rfl) ?_
    refine KO.done ?_
    refine K.weak (E' := [(1, .slice q ef.length c), (2, .string name), (7, .slice o.z.q1 (rowsS s.st name).length o.z.c1)]) (L' := [A, RowF Kd.rw o.z.q1 (rowsS s.st name), RowF Kd.oz s.q s.l, NestF s.l] ++ L) (by rw [hrs]; exact (by repeat (first | exact Env.sub_nil _ | refine Env.sub_cons rfl ?_))) (fun w h => by rw [hrs]; exact h.fitD) ?_
    obtain ⟨q0, hq0⟩ : ∃ q0, q0 = o.z.q1 := ⟨_, rfl⟩
    rw [← hq0]
    obtain ⟨c0, hc0⟩ : ∃ c0, c0 = o.z.c1 := ⟨_, rfl⟩
    rw [← hc0]
    clear hc0 hq0
    refine K.seq <| K.seq ?_
    refine K.region ?_
    refine KO.q rfl (q_move rfl) ?_
    refine KO.q rfl (q_len Tryz.underlying81 rfl) ?_
    refine KO.q rfl (q_move rfl) ?_
    refine KO.done ?_
    refine K.block ?_
    refine K.rounds2 (ι := { x : Nat × Option Addr × Nat // x.1 ≤ ef.length }) (fun x => [(24, .int .i64 x.1.1), (23, .int .i64 ef.length), (22, .slice q ef.length c), (2, .string name), (7, .slice x.1.2.1 ((ef.take x.1.1).foldl (putT name) (rowsS s.st name)).length x.1.2.2)]) (fun x => [A, RowF Kd.rw x.1.2.1 ((ef.take x.1.1).foldl (putT name) (rowsS s.st name)), RowF Kd.oz s.q s.l, NestF s.l] ++ L) (fun x => ef.length - x.1.1) ⟨(0, q0, _), Nat.zero_le _⟩ (by repeat (first | exact Env.sub_nil _ | refine Env.sub_cons rfl ?_)) (fun w h => h.fitD) (fun x ih => ?_)
    obtain ⟨⟨i, po, co⟩, hi⟩ := x
    dsimp only at hi ⊢
    have hol := tblS_le name (ef.take i) (rowsS s.st name)
    have hol2 := List.length_take_le i ef
    refine K.seq ?_
    refine K.region ?_
    refine KO.q rfl (q_lt rfl rfl) ?_
    refine KO.done ?_
    refine K.seq ?_
    refine K.dcond (s := 25) rfl (fun g25 => ?_) (fun g25 => ?_)
    · obtain ⟨e, he⟩ : ∃ e, ef[i]? = some e := ⟨_, List.getElem?_eq_getElem (by omega)⟩
      have hes := tblS_succ he (rowsS s.st name) name
      have hek := hw e (List.mem_of_getElem? he)
      obtain ⟨T, hT⟩ : ∃ T, T = (ef.take i).foldl (putT name) (rowsS s.st name) := ⟨_, rfl⟩
      rw [← hT] at hes hol ⊢
      refine K.skip <| K.seq <| K.block <| K.seq ?_
      refine K.region ?_
      refine KO.q rfl (q_ix (xs := ef) i se_81 rfl rfl rfl hA (by repeat (first | exact List.Mem.head _ | apply List.Mem.tail)) rfl (by omega)) ?_
      refine KO.q rfl (q_ldEN (xs := ef) (enc := Eff.cells) ck_80 rfl hA (by repeat (first | exact List.Mem.head _ | apply List.Mem.tail)) he) ?_
      refine KO.loud rfl (l_alloc zo_80) ?_
      rintro _ _ ⟨b10, rfl, rfl⟩
      refine KO.loudN rfl (l_storeAll ck_80 rfl rfl ⟨rfl, rfl⟩ (eff_one _) (by repeat (first | exact Pick.here | apply Pick.there))) ?_
      rintro _ _ ⟨rfl, rfl⟩
      refine KO.done ?_
      refine K.seq <| K.seq ?_
      refine K.region ?_
      refine KO.q rfl (q_field fo_80_1 rfl) ?_
      refine KO.q rfl (q_load1D ck_9 rfl) ?_
      refine KO.q rfl (q_move rfl) ?_
      refine KO.q rfl (q_sne rfl rfl) ?_
      refine KO.done ?_
      refine K.dcond (s := 31) rfl (fun g31 => ?_) (fun g31 => ?_)
      · replace hes : (ef.take (i + 1)).foldl (putT name) (rowsS s.st name) = T := by rw [hes]; unfold putT; rw [if_neg g31]
        refine K.exit rfl ?_
        refine K.region ?_
        refine KO.q rfl (q_add rfl rfl (by first | omega | (simp; omega)) (by first | omega | (simp; omega))) ?_
        refine KO.q rfl (q_move rfl) ?_
        refine KO.done ?_
        exact K.weak (E' := [(24, .int .i64 ((i + 1 : Nat) : Int)), (23, .int .i64 ef.length), (22, .slice q ef.length c), (2, .string name), (7, .slice po ((ef.take (i + 1)).foldl (putT name) (rowsS s.st name)).length co)]) (by rw [hes]; exact (by repeat (first | exact Env.sub_nil _ | refine Env.sub_cons rfl ?_))) (fun w h => by rw [hes]; exact h.fitD) (ih ⟨(i + 1, po, co), by show i + 1 ≤ _; omega⟩ (by show ef.length - (i + 1) < ef.length - i; omega))
      · replace hes : (ef.take (i + 1)).foldl (putT name) (rowsS s.st name) = putR T ⟨e.key, e.value⟩ := by rw [hes]; unfold putT; rw [if_pos (Decidable.not_not.1 g31)]
        refine K.skip <| K.seq ?_
        refine K.region ?_
        refine KO.q rfl (q_field fo_80_0 rfl) ?_
        refine KO.q rfl (q_load1D ck_3 rfl) ?_
        refine KO.done ?_
        refine K.block <| K.seq ?_
        refine K.region ?_
        refine KO.q rfl (q_eq rfl rfl) ?_
        refine KO.q rfl (q_assign rfl) ?_
        refine KO.done ?_
        refine K.dcond (s := 34) rfl (fun g34 => ?_) (fun g34 => ?_)
        · refine K.region ?_
          refine KO.q rfl (q_move rfl) ?_
          refine KO.q rfl (q_field fo_80_2 rfl) ?_
          refine KO.q rfl (q_load1D ck_9 rfl) ?_
          refine KO.q rfl (q_field fo_80_3 rfl) ?_
          refine KO.q rfl (q_load1D ck_9 rfl) ?_
          refine KO.q rfl (q_as_rw (q_build st_29 rfl (by repeat (first | exact Fill.nil | (apply Fill.cons; rfl; rfl; rfl) | exact SetN.nil | apply SetN.cons | exact SetAt.here | apply SetAt.there))) (by rfl)) ?_
          refine KO.loud rfl (OpL.callD rfl (h := rw_Put po co T ⟨e.key, e.value⟩ (by omega))) ?_
          rintro _ _ ⟨_, ⟨pn, dn, rfl, rfl, hdn⟩, rfl⟩
          refine KO.q rfl (q_assign rfl) ?_
          refine KO.done ?_
          refine K.st (fun w h => rowO_freeze (e := 29) (cap := dn) (k := Kd.rw) (p := pn) (xs := putR T ⟨e.key, e.value⟩) (h.pick (by repeat (first | exact Pick.here | apply Pick.there)))) ?_
          refine K.inBlock <| K.inBlock ?_
          refine K.region ?_
          refine KO.q rfl (q_add rfl rfl (by first | omega | (simp; omega)) (by first | omega | (simp; omega))) ?_
          refine KO.q rfl (q_move rfl) ?_
          refine KO.done ?_
          exact K.weak (E' := [(24, .int .i64 ((i + 1 : Nat) : Int)), (23, .int .i64 ef.length), (22, .slice q ef.length c), (2, .string name), (7, .slice pn ((ef.take (i + 1)).foldl (putT name) (rowsS s.st name)).length dn)]) (by rw [hes]; exact (by repeat (first | exact Env.sub_nil _ | refine Env.sub_cons rfl ?_))) (fun w h => by rw [hes]; exact h.fitD) (ih ⟨(i + 1, pn, dn), by show i + 1 ≤ _; omega⟩ (by show ef.length - (i + 1) < ef.length - i; omega))
        · exact absurd hek (by simpa using g34)
    · obtain rfl : i = ef.length := by omega
      rw [List.take_length] at *
      clear ih
      refine K.exit rfl ?_
      refine K.seq ?_
      refine K.region ?_
      refine KO.q rfl (q_move rfl) ?_
      refine KO.q rfl (q_assign rfl) ?_
      refine KO.done ?_
      refine K.ret (fn := Tryz.f44) Tryz.func44 (fun a w hk hs => res1 Tryz.results44 hk rfl) (fun w hs => ?_)
      exact ⟨_, A :: RowF Kd.rw po (tblS s.st ef name) :: StL s, rfl, ⟨po, co, rfl, rfl⟩, hs.fitD⟩
  · replace g15 : ¬ 0 ≤ findO s.st name := g15
    have hrs : rowsS s.st name = [] := by unfold rowsS; rw [if_pos (by omega)]
    refine K.st (fun w h => rowF_nilA (k := Kd.rw) h) ?_
    refine K.weak (E' := [(1, .slice q ef.length c), (2, .string name), (7, .slice none (rowsS s.st name).length 0)]) (L' := [A, RowF Kd.rw none (rowsS s.st name), RowF Kd.oz s.q s.l, NestF s.l] ++ L) (by rw [hrs]; exact (by repeat (first | exact Env.sub_nil _ | refine Env.sub_cons rfl ?_))) (fun w h => by rw [hrs]; exact h.fitD) ?_
    obtain ⟨q0, hq0⟩ : ∃ q0 : Option Addr, q0 = none := ⟨_, rfl⟩
    rw [← hq0]
    obtain ⟨c0, hc0⟩ : ∃ c0 : Nat, c0 = 0 := ⟨_, rfl⟩
    clear hc0 hq0
    refine K.skip <| K.seq <| K.seq ?_
    refine K.region ?_
    refine KO.q rfl (q_move rfl) ?_
    refine KO.q rfl (q_len Tryz.underlying81 rfl) ?_
    refine KO.q rfl (q_move rfl) ?_
    refine KO.done ?_
    refine K.block ?_
    refine K.rounds2 (ι := { x : Nat × Option Addr × Nat // x.1 ≤ ef.length }) (fun x => [(24, .int .i64 x.1.1), (23, .int .i64 ef.length), (22, .slice q ef.length c), (2, .string name), (7, .slice x.1.2.1 ((ef.take x.1.1).foldl (putT name) (rowsS s.st name)).length x.1.2.2)]) (fun x => [A, RowF Kd.rw x.1.2.1 ((ef.take x.1.1).foldl (putT name) (rowsS s.st name)), RowF Kd.oz s.q s.l, NestF s.l] ++ L) (fun x => ef.length - x.1.1) ⟨(0, q0, _), Nat.zero_le _⟩ (by repeat (first | exact Env.sub_nil _ | refine Env.sub_cons rfl ?_)) (fun w h => h.fitD) (fun x ih => ?_)
    obtain ⟨⟨i, po, co⟩, hi⟩ := x
    dsimp only at hi ⊢
    have hol := tblS_le name (ef.take i) (rowsS s.st name)
    have hol2 := List.length_take_le i ef
    refine K.seq ?_
    refine K.region ?_
    refine KO.q rfl (q_lt rfl rfl) ?_
    refine KO.done ?_
    refine K.seq ?_
    refine K.dcond (s := 25) rfl (fun g25 => ?_) (fun g25 => ?_)
    · obtain ⟨e, he⟩ : ∃ e, ef[i]? = some e := ⟨_, List.getElem?_eq_getElem (by omega)⟩
      have hes := tblS_succ he (rowsS s.st name) name
      have hek := hw e (List.mem_of_getElem? he)
      obtain ⟨T, hT⟩ : ∃ T, T = (ef.take i).foldl (putT name) (rowsS s.st name) := ⟨_, rfl⟩
      rw [← hT] at hes hol ⊢
      refine K.skip <| K.seq <| K.block <| K.seq ?_
      refine K.region ?_
      refine KO.q rfl (q_ix (xs := ef) i se_81 rfl rfl rfl hA (by repeat (first | exact List.Mem.head _ | apply List.Mem.tail)) rfl (by omega)) ?_
      refine KO.q rfl (q_ldEN (xs := ef) (enc := Eff.cells) ck_80 rfl hA (by repeat (first | exact List.Mem.head _ | apply List.Mem.tail)) he) ?_
      refine KO.loud rfl (l_alloc zo_80) ?_
      rintro _ _ ⟨b10, rfl, rfl⟩
      refine KO.loudN rfl (l_storeAll ck_80 rfl rfl ⟨rfl, rfl⟩ (eff_one _) (by repeat (first | exact Pick.here | apply Pick.there))) ?_
      rintro _ _ ⟨rfl, rfl⟩
      refine KO.done ?_
      refine K.seq <| K.seq ?_
      refine K.region ?_
      refine KO.q rfl (q_field fo_80_1 rfl) ?_
      refine KO.q rfl (q_load1D ck_9 rfl) ?_
      refine KO.q rfl (q_move rfl) ?_
      refine KO.q rfl (q_sne rfl rfl) ?_
      refine KO.done ?_
      refine K.dcond (s := 31) rfl (fun g31 => ?_) (fun g31 => ?_)
      · replace hes : (ef.take (i + 1)).foldl (putT name) (rowsS s.st name) = T := by rw [hes]; unfold putT; rw [if_neg g31]
        refine K.exit rfl ?_
        refine K.region ?_
        refine KO.q rfl (q_add rfl rfl (by first | omega | (simp; omega)) (by first | omega | (simp; omega))) ?_
        refine KO.q rfl (q_move rfl) ?_
        refine KO.done ?_
        exact K.weak (E' := [(24, .int .i64 ((i + 1 : Nat) : Int)), (23, .int .i64 ef.length), (22, .slice q ef.length c), (2, .string name), (7, .slice po ((ef.take (i + 1)).foldl (putT name) (rowsS s.st name)).length co)]) (by rw [hes]; exact (by repeat (first | exact Env.sub_nil _ | refine Env.sub_cons rfl ?_))) (fun w h => by rw [hes]; exact h.fitD) (ih ⟨(i + 1, po, co), by show i + 1 ≤ _; omega⟩ (by show ef.length - (i + 1) < ef.length - i; omega))
      · replace hes : (ef.take (i + 1)).foldl (putT name) (rowsS s.st name) = putR T ⟨e.key, e.value⟩ := by rw [hes]; unfold putT; rw [if_pos (Decidable.not_not.1 g31)]
        refine K.skip <| K.seq ?_
        refine K.region ?_
        refine KO.q rfl (q_field fo_80_0 rfl) ?_
        refine KO.q rfl (q_load1D ck_3 rfl) ?_
        refine KO.done ?_
        refine K.block <| K.seq ?_
        refine K.region ?_
        refine KO.q rfl (q_eq rfl rfl) ?_
        refine KO.q rfl (q_assign rfl) ?_
        refine KO.done ?_
        refine K.dcond (s := 34) rfl (fun g34 => ?_) (fun g34 => ?_)
        · refine K.region ?_
          refine KO.q rfl (q_move rfl) ?_
          refine KO.q rfl (q_field fo_80_2 rfl) ?_
          refine KO.q rfl (q_load1D ck_9 rfl) ?_
          refine KO.q rfl (q_field fo_80_3 rfl) ?_
          refine KO.q rfl (q_load1D ck_9 rfl) ?_
          refine KO.q rfl (q_as_rw (q_build st_29 rfl (by repeat (first | exact Fill.nil | (apply Fill.cons; rfl; rfl; rfl) | exact SetN.nil | apply SetN.cons | exact SetAt.here | apply SetAt.there))) (by rfl)) ?_
          refine KO.loud rfl (OpL.callD rfl (h := rw_Put po co T ⟨e.key, e.value⟩ (by omega))) ?_
          rintro _ _ ⟨_, ⟨pn, dn, rfl, rfl, hdn⟩, rfl⟩
          refine KO.q rfl (q_assign rfl) ?_
          refine KO.done ?_
          refine K.st (fun w h => rowO_freeze (e := 29) (cap := dn) (k := Kd.rw) (p := pn) (xs := putR T ⟨e.key, e.value⟩) (h.pick (by repeat (first | exact Pick.here | apply Pick.there)))) ?_
          refine K.inBlock <| K.inBlock ?_
          refine K.region ?_
          refine KO.q rfl (q_add rfl rfl (by first | omega | (simp; omega)) (by first | omega | (simp; omega))) ?_
          refine KO.q rfl (q_move rfl) ?_
          refine KO.done ?_
          exact K.weak (E' := [(24, .int .i64 ((i + 1 : Nat) : Int)), (23, .int .i64 ef.length), (22, .slice q ef.length c), (2, .string name), (7, .slice pn ((ef.take (i + 1)).foldl (putT name) (rowsS s.st name)).length dn)]) (by rw [hes]; exact (by repeat (first | exact Env.sub_nil _ | refine Env.sub_cons rfl ?_))) (fun w h => by rw [hes]; exact h.fitD) (ih ⟨(i + 1, pn, dn), by show i + 1 ≤ _; omega⟩ (by show ef.length - (i + 1) < ef.length - i; omega))
        · exact absurd hek (by simpa using g34)
    · obtain rfl : i = ef.length := by omega
      rw [List.take_length] at *
      clear ih
      refine K.exit rfl ?_
      refine K.seq ?_
      refine K.region ?_
      refine KO.q rfl (q_move rfl) ?_
      refine KO.q rfl (q_assign rfl) ?_
      refine KO.done ?_
      refine K.ret (fn := Tryz.f44) Tryz.func44 (fun a w hk hs => res1 Tryz.results44 hk rfl) (fun w hs => ?_)
      exact ⟨_, A :: RowF Kd.rw po (tblS s.st ef name) :: StL s, rfl, ⟨po, co, rfl, rfl⟩, hs.fitD⟩
def getS (s : Stt) (w : List Eff) (name key : ByteArray) : ByteArray × Bool := getR (tblS s w name) key
theorem tx_Get (A : HP) (s : Sz) (n : Nat) (q : Option Addr) (c : Nat) (ef : List Eff) (name key : ByteArray) (hA : IsRow A Kd.eff q ef) (hs : s.st.small n) (hn : n + ef.length ≤ 100000000) (hw : ∀ e ∈ ef, e.kind = 2) : Fn Tryz.prog 35 [.agg s.cells.toArray, .slice q ef.length c, .string name, .string key].toArray (A :: StL s)
    (fun r post => r = .tuple #[.string (getS s.st ef name key).1, .bool (getS s.st ef name key).2] ∧ post = A :: StL s) := by
  have hrl := rowsS_le hs name
  have htl := tblS_le name ef (rowsS s.st name)
  refine Fn.enter (N := 18) Tryz.func35 rfl Tryz.ntmps35 (by kernel_rfl) rfl (fun ρ L => ?_)
  refine K.seq ?_
  refine K.region ?_
  refine KO.loud rfl (l_box rfl rfl) ?_
  rintro _ _ ⟨b4, rfl, rfl⟩
  refine KO.q rfl (q_assign rfl) ?_
  refine KO.q rfl (q_assign rfl) ?_
  refine KO.done ?_
  refine K.seq ?_
  refine K.region ?_
  refine KO.q rfl (q_loadN ck_24 rfl rfl (by first | (apply cells_pv; (repeat (first | exact List.Mem.head _ | apply List.Mem.tail))) | (apply cells_fv; (repeat (first | exact List.Mem.head _ | apply List.Mem.tail))))) ?_
  refine KO.q rfl (q_move rfl) ?_
  refine KO.q rfl (q_move rfl) ?_
  refine KO.loud rfl (OpL.callD rfl (h := tx_table A s n q c ef name hA hs hn hw)) ?_
  rintro _ _ ⟨_, ⟨qt, ct, rfl, rfl⟩, rfl⟩
  refine KO.q rfl (q_move rfl) ?_
  refine KO.loud rfl (OpL.callD rfl (h := rw_Get qt ct (tblS s.st ef name) key (by show (ef.foldl (putT name) (rowsS s.st name)).length ≤ _; omega))) ?_
  rintro _ _ ⟨_, ⟨rfl, rfl⟩, rfl⟩
  refine KO.q rfl (q_extract rfl rfl) ?_
  refine KO.q rfl (q_extract rfl rfl) ?_
  refine KO.q rfl (q_assign rfl) ?_
  refine KO.q rfl (q_assign rfl) ?_
  refine KO.done ?_
  refine K.ret (fn := Tryz.f35) Tryz.func35 (fun a w hk hs => res2 Tryz.results35 hk rfl rfl) (fun w hs => ?_)
  exact ⟨_, A :: StL s, rfl, ⟨rfl, rfl⟩, hs.fitD⟩
end Go.Proofs.YthnmoiilaaoooaaGreat.L
