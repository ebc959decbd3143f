/- Walks: the locks' table: for which name somebody waits; an entry put in. -/
import Derived.Test.YtcpkcjabmookmaaGreatJ3
namespace Go.Proofs.YtcpkcjabmookmaaGreat.L
open Go Go.Proofs
attribute [local irreducible] pv fv pt fz RowF RowO rowP old pure_ elA
set_option maxRecDepth 100000
set_option linter.unusedSimpArgs false
set_option linter.unusedVariables false

def waitsE (who : Int) (e : E) : Bool := decide ((e.k.my who).wants ≠ 0)
def tWait (es : List E) (who : Int) : Option E := es.find? (waitsE who)
def Nm.nil : Nm := ⟨0, ⟨#[]⟩, ⟨#[]⟩⟩
--%call (*poste/locks.Table).Waiting := tb_Waiting _ _ _ _ _ _ (by assumption) (by assumption)
set_option maxHeartbeats 1600000 in
theorem tb_Waiting (t : Nat) (n : Int) (q : Option Addr) (c : Nat) (es : List E) (who : Int) (hz : ∀ e ∈ es, e.k.size ≤ 1000000) (hl : es.length ≤ 1000000000) : Fn Tryz.prog 12 [.pointer (some ⟨t, 0, none⟩), .int .i64 who].toArray (TbE t n q c es ++ [AllO LkE es]) (fun r post => r = .tuple #[.agg (((tWait es who).map E.name).getD Nm.nil).cells.toArray, .bool (tWait es who).isSome] ∧ post = TbE t n q c es ++ [AllO LkE es]) := by
  refine Fn.enter (N := 35) Tryz.func12 rfl Tryz.ntmps12 (by kernel_rfl) rfl (fun ρ L => ?_)
  refine K.seq ?_
  refine K.region ?_
  refine KO.loud rfl (l_alloc zo_31) ?_
  rintro _ _ ⟨b4, rfl, rfl⟩
  refine KO.q rfl (q_assign rfl) ?_
  refine KO.done ?_
  refine K.seq <| K.seq ?_
  refine K.region ?_
  refine KO.q rfl (q_move rfl) ?_
  refine KO.q rfl (q_pnil Tryz.underlying24 rfl rfl) ?_
  refine KO.done ?_
  refine K.no rfl ?_
  refine K.skip <| K.seq <| K.seq ?_
  refine K.region ?_
  refine KO.q rfl (q_move rfl) ?_
  refine KO.q rfl (q_nilCheck rfl) ?_
  refine KO.q rfl (q_field fo_53_1 rfl) ?_
  refine KO.q rfl (q_load1D ck_51 rfl) ?_
  refine KO.q rfl (q_len Tryz.underlying51 rfl) ?_
  refine KO.q rfl (q_move rfl) ?_
  refine KO.done ?_
  refine K.block ?_
  refine K.rounds2 (ι := { i : Nat // i ≤ es.length ∧ (es.take i).any (waitsE who) = false }) (fun s => [(18, .int .i64 s.1), (17, .int .i64 es.length), (16, .slice q es.length c), (1, .int .i64 who), (4, .pointer (some ⟨b4, 0, none⟩))]) (fun s => TbE t n q c es ++ [AllO LkE es, pv b4 31 Nm.nil.cells] ++ L) (fun s => es.length - s.1) ⟨0, Nat.zero_le _, rfl⟩ (by repeat (first | exact Env.sub_nil _ | refine Env.sub_cons rfl ?_)) (fun w h => h.fitD) (fun s ih => ?_)
  obtain ⟨i, hi, hno⟩ := s
  dsimp only at hi hno ⊢
  refine K.seq ?_
  refine K.region ?_
  refine KO.q rfl (q_lt rfl rfl) ?_
  refine KO.done ?_
  refine K.seq ?_
  refine K.dcond (s := 19) rfl (fun g19 => ?_) (fun g19 => ?_)
  · obtain ⟨e, he⟩ : ∃ e, es[i]? = some e := ⟨_, List.getElem?_eq_getElem (by omega)⟩
    have hez := hz e (List.mem_of_getElem? he)
    refine K.skip <| K.seq <| K.block <| K.seq ?_
    refine K.region ?_
    refine KO.q rfl (q_ix (xs := es) i se_51 rfl rfl rfl isO (by repeat (first | exact List.Mem.head _ | apply List.Mem.tail)) rfl (by omega)) ?_
    refine KO.q rfl (q_ldEN (xs := es) ck_63 rfl isO (by repeat (first | exact List.Mem.head _ | apply List.Mem.tail)) he) ?_
    refine KO.loud rfl (l_alloc zo_63) ?_
    rintro _ _ ⟨b7, rfl, rfl⟩
    refine KO.loudN rfl (l_storeAll ck_63 rfl rfl ⟨rfl, rfl⟩ (e_one _) (by repeat (first | exact Pick.here | apply Pick.there))) ?_
    rintro _ _ ⟨rfl, rfl⟩
    refine KO.done ?_
    refine K.seq ?_
    refine K.ex (fun w h => tb_open he (h.pick (by repeat (first | exact Pick.here | apply Pick.there)))) (fun bb => ?_)
    obtain ⟨bb, hbb⟩ := bb
    obtain ⟨nm, pp, k⟩ := e
    have hbb : pp = some bb := hbb
    subst hbb
    have hez : k.size ≤ 1000000 := hez
    refine K.region ?_
    refine KO.q rfl (q_loadN ck_63 rfl rfl (by first | (apply cells_pv; (repeat (first | exact List.Mem.head _ | apply List.Mem.tail))) | (apply cells_fv; (repeat (first | exact List.Mem.head _ | apply List.Mem.tail))))) ?_
    refine KO.q rfl (q_move rfl) ?_
    refine KO.loud rfl (OpL.callD rfl (h := en_hold nm bb k who hez)) ?_
    rintro _ _ ⟨_, ⟨rfl, rfl⟩, rfl⟩
    refine KO.q rfl (q_move rfl) ?_
    refine KO.q rfl (q_extract rfl rfl) ?_
    refine KO.q rfl (q_extract rfl rfl) ?_
    refine KO.loud rfl (l_alloc zo_59) ?_
    rintro _ _ ⟨b8, rfl, rfl⟩
    refine KO.loudN rfl (l_storeAll ck_59 rfl rfl ⟨rfl, rfl⟩ (hold_one _) (by repeat (first | exact Pick.here | apply Pick.there))) ?_
    rintro _ _ ⟨rfl, rfl⟩
    refine KO.q rfl (q_assign rfl) ?_
    refine KO.done ?_
    refine K.seq ?_
    refine K.region ?_
    refine KO.q rfl (q_field fo_59_2 rfl) ?_
    refine KO.q rfl (q_load1D ck_3 rfl) ?_
    refine KO.q rfl (q_ne rfl rfl) ?_
    refine KO.done ?_
    refine K.dcond (s := 30) rfl (fun g30 => ?_) (fun g30 => ?_)
    · have hf : waitsE who ⟨nm, some bb, k⟩ = true := decide_eq_true g30
      have hw : tWait es who = some ⟨nm, some bb, k⟩ := find_take he hno hf
      refine K.st (fun w h => tb_back he rfl (h.fit (M := [LkX bb k, AllO LkE (es.eraseIdx i), pv t 53 [.int .i64 n, .slice q es.length c], RowO Kd.e 63 q c es, pv b4 31 Nm.nil.cells, pv b7 63 (E.cells ⟨nm, some bb, k⟩)]) (by repeat (first | exact Give.nil | (apply Give.perI; (repeat (first | exact List.Mem.head _ | apply List.Mem.tail))) | (apply Give.own; (repeat (first | exact Pick.here | apply Pick.there))))) (by repeat (first | exact Drop.refl | apply Drop.skip)))) ?_
      refine K.seq ?_
      refine K.region ?_
      refine KO.q rfl (q_field fo_63_0 rfl) ?_
      refine KO.q rfl (q_ldPS sub_e_name nm_sz ck_31 rfl (by repeat (first | exact List.Mem.head _ | apply List.Mem.tail))) ?_
      refine KO.loudN rfl (l_storeAll ck_31 rfl rfl ⟨rfl, rfl⟩ (nm_one _) (by repeat (first | exact Pick.here | apply Pick.there))) ?_
      rintro _ _ ⟨rfl, rfl⟩
      refine KO.q rfl (q_assign rfl) ?_
      refine KO.done ?_
      refine K.ret (fn := Tryz.f12) Tryz.func12 (fun a w hk hs => resCT Tryz.results12 hk rfl ck_31 rfl (cells_pv (by repeat (first | exact List.Mem.head _ | apply List.Mem.tail)) w hs) rfl) (fun w hs => ?_)
      rw [hw]
      exact ⟨_, TbE t n q c es ++ [AllO LkE es], rfl, ⟨rfl, rfl⟩, hs.fitD⟩
    · have hf : waitsE who ⟨nm, some bb, k⟩ = false := decide_eq_false g30
      refine K.st (fun w h => tb_back he rfl (h.fit (M := [LkX bb k, AllO LkE (es.eraseIdx i), pv t 53 [.int .i64 n, .slice q es.length c], RowO Kd.e 63 q c es, pv b4 31 Nm.nil.cells]) (by repeat (first | exact Give.nil | (apply Give.perI; (repeat (first | exact List.Mem.head _ | apply List.Mem.tail))) | (apply Give.own; (repeat (first | exact Pick.here | apply Pick.there))))) (by repeat (first | exact Drop.refl | apply Drop.skip)))) ?_
      refine K.skip <| K.inBlock ?_
      refine K.region ?_
      refine KO.q rfl (q_add rfl rfl (by first | omega | (simp; omega)) (by first | omega | (simp; omega))) ?_
      refine KO.q rfl (q_move rfl) ?_
      refine KO.done ?_
      exact K.weak (by repeat (first | exact Env.sub_nil _ | refine Env.sub_cons rfl ?_)) (fun w h => h.fitD) (ih ⟨i + 1, by omega, by rw [any_take_succ he, hno, hf]; rfl⟩ (by show es.length - (i + 1) < es.length - i; omega))
  · have hw : tWait es who = none := find_none (by rw [List.take_of_length_le (by omega)] at hno; exact hno)
    refine K.exit rfl ?_
    refine K.seq ?_
    refine K.region ?_
    refine KO.q rfl (q_as_nm (q_build st_31 rfl (by repeat (first | exact Fill.nil | (apply Fill.cons; rfl; rfl; rfl) | exact SetN.nil | apply SetN.cons | exact SetAt.here | apply SetAt.there))) (by rfl)) ?_
    refine KO.loudN rfl (l_storeAll ck_31 rfl rfl ⟨rfl, rfl⟩ (nm_one _) (by repeat (first | exact Pick.here | apply Pick.there))) ?_
    rintro _ _ ⟨rfl, rfl⟩
    refine KO.q rfl (q_assign rfl) ?_
    refine KO.done ?_
    refine K.ret (fn := Tryz.f12) Tryz.func12 (fun a w hk hs => resCT Tryz.results12 hk rfl ck_31 rfl (cells_pv (by repeat (first | exact List.Mem.head _ | apply List.Mem.tail)) w hs) rfl) (fun w hs => ?_)
    rw [hw]
    exact ⟨_, TbE t n q c es ++ [AllO LkE es], rfl, ⟨rfl, rfl⟩, hs.fitD⟩
theorem tb_Count (t : Nat) (n : Int) (s : Value) : Fn Tryz.prog 16 [.pointer (some ⟨t, 0, none⟩)].toArray [pv t 53 [.int .i64 n, s]] (fun r post => r = .int .i64 n ∧ post = [pv t 53 [.int .i64 n, s]]) := by
  refine Fn.enter (N := 10) Tryz.func16 rfl Tryz.ntmps16 (by kernel_rfl) rfl (fun ρ L => ?_)
  refine K.seq ?_
  refine K.region ?_
  refine KO.q rfl (q_assign rfl) ?_
  refine KO.done ?_
  refine K.seq <| K.seq ?_
  refine K.region ?_
  refine KO.q rfl (q_move rfl) ?_
  refine KO.q rfl (q_pnil Tryz.underlying24 rfl rfl) ?_
  refine KO.done ?_
  refine K.no rfl ?_
  refine K.skip <| K.seq ?_
  refine K.region ?_
  refine KO.q rfl (q_move rfl) ?_
  refine KO.q rfl (q_nilCheck rfl) ?_
  refine KO.q rfl (q_field fo_53_0 rfl) ?_
  refine KO.q rfl (q_field fo_50_0 rfl) ?_
  refine KO.q rfl (q_load1D ck_3 rfl) ?_
  refine KO.q rfl (q_assign rfl) ?_
  refine KO.done ?_
  refine K.ret (fn := Tryz.f16) Tryz.func16 (fun a w hk hs => res1 Tryz.results16 hk rfl) (fun w hs => ?_)
  exact ⟨_, [pv t 53 [.int .i64 n, s]], rfl, ⟨rfl, rfl⟩, hs.fitD⟩
set_option maxHeartbeats 1600000 in
theorem ins_e (q : Option Addr) (cap : Nat) (l : List E) (i : Nat) (bv ev : Nat) (x : E) (hi : i ≤ l.length) (hc : l.length ≤ cap) (hb : l.length ≤ 1000000000) : Fn Tryz.prog 26 [.slice q l.length cap, .int .i64 i, .slice (some ⟨bv, 0, none⟩) 1 1].toArray [RowO Kd.e 63 q cap l, pv bv ev x.cells]
    (fun r post => ∃ q' cap', r = .slice q' (l.length + 1) cap' ∧ post = [RowO Kd.e 63 q' cap' (l.take i ++ [x] ++ l.drop i)]) := by
  refine Fn.enter (N := 95) Tryz.func26 rfl Tryz.ntmps26 (by kernel_rfl) rfl (fun ρ L => ?_)
  refine K.seq ?_
  refine K.region ?_
  refine KO.q rfl (q_assign rfl) ?_
  refine KO.done ?_
  refine K.seq ?_
  refine K.region ?_
  refine KO.q rfl (q_move rfl) ?_
  refine KO.q rfl (q_move rfl) ?_
  refine KO.q rfl (q_cutL se_51 rfl rfl (by first | omega | (simp; omega)) (by first | omega | (simp; omega)) (by first | omega | (simp; omega))) ?_
  refine KO.done ?_
  refine K.seq ?_
  refine K.region ?_
  refine KO.q rfl (q_move rfl) ?_
  refine KO.q rfl (q_len Tryz.underlying51 rfl) ?_
  refine KO.q rfl (q_assign rfl) ?_
  refine KO.done ?_
  refine K.seq <| K.seq ?_
  refine K.region ?_
  refine KO.q rfl (q_move rfl) ?_
  refine KO.q rfl (q_eqF rfl rfl (by decide)) ?_
  refine KO.done ?_
  refine K.no rfl ?_
  refine K.skip <| K.seq ?_
  refine K.region ?_
  refine KO.q rfl (q_move rfl) ?_
  refine KO.q rfl (q_len Tryz.underlying51 rfl) ?_
  refine KO.q rfl (q_assign rfl) ?_
  refine KO.done ?_
  refine K.seq <| K.seq ?_
  refine K.region ?_
  refine KO.q rfl (q_move rfl) ?_
  refine KO.q rfl (q_move rfl) ?_
  refine KO.q rfl (q_eq rfl rfl) ?_
  refine KO.done ?_
  refine K.dcond (s := 22) rfl (fun g22 => ?_) (fun g22 => ?_)
  · have hil : i = l.length := by omega
    have hins : l.take i ++ [x] ++ l.drop i = l ++ [x] := by subst hil; simp
    refine K.seq ?_
    refine K.region ?_
    refine KO.q rfl (q_move rfl) ?_
    refine KO.q rfl (q_move rfl) ?_
    refine KO.loud rfl (l_append Kd.e se_51 Tryz.underlying51 ⟨_, ze_63, rfl⟩ (by decide) rfl rfl (by repeat (first | exact Pick.here | apply Pick.there)) isP (by repeat (first | exact List.Mem.head _ | apply List.Mem.tail)) rfl rfl (by first | omega | (simp; omega) | (simp; done))) ?_
    rintro _ _ ⟨px, capx, rfl, rfl⟩
    refine KO.q rfl (q_assign rfl) ?_
    refine KO.done ?_
    refine K.ret (fn := Tryz.f26) Tryz.func26 (fun a w hk hs => res1 Tryz.results26 hk rfl) (fun w hs => ?_)
    first
      | exact ⟨_, [RowO Kd.e 63 px capx (l ++ [x])], rfl, ⟨px, capx, by simp, by rw [hins]⟩, hs.fitD⟩
      | exact ⟨_, [RowO Kd.e 63 (some ⟨bn, 0, none⟩) capn (l.take i ++ [x] ++ l.drop i)], rfl, ⟨_, _, congrArg (fun n => Value.slice _ n _) (by omega), rfl⟩, hs.fitD⟩
      | exact ⟨_, [RowO Kd.e 63 q cap (l.take i ++ [x] ++ l.drop i)], rfl, ⟨q, cap, congrArg (fun n => Value.slice _ n _) (by omega), rfl⟩, hs.fitD⟩
  · refine K.skip <| K.seq <| K.seq ?_
    refine K.region ?_
    refine KO.q rfl (q_move rfl) ?_
    refine KO.q rfl (q_move rfl) ?_
    refine KO.q rfl (q_add rfl rfl (by first | omega | (simp; omega)) (by first | omega | (simp; omega))) ?_
    refine KO.q rfl (q_move rfl) ?_
    refine KO.q rfl (q_cap Tryz.underlying51 rfl) ?_
    refine KO.q rfl (q_gt rfl rfl) ?_
    refine KO.done ?_
    refine K.dcond (s := 31) rfl (fun g31 => ?_) (fun g31 => ?_)
    · have hil : i < l.length := by omega
      refine K.seq ?_
      refine K.region ?_
      refine KO.q rfl (q_move rfl) ?_
      refine KO.q rfl (q_move rfl) ?_
      refine KO.q rfl (q_cutH se_51 rfl rfl (by first | omega | (simp; omega)) (by first | omega | (simp; omega))) ?_
      refine KO.q rfl (q_move rfl) ?_
      refine KO.q rfl (q_move rfl) ?_
      refine KO.q rfl (q_add rfl rfl (by first | omega | (simp; omega)) (by first | omega | (simp; omega))) ?_
      refine KO.q rfl (q_move rfl) ?_
      refine KO.q rfl (q_sub rfl rfl (by first | omega | (simp; omega)) (by first | omega | (simp; omega))) ?_
      refine KO.loud rfl (l_growPre (i := i) (n := l.length + 1 - i) Kd.e ⟨Nm.nil, none, ⟨[], []⟩⟩ se_51 Tryz.underlying3 ze_63 rfl (fun _ => rfl) rfl (congrArg (fun z => some (Value.int .i64 z)) (show (l.length : Int) + ((1 : Nat) : Int) - i = ((l.length + 1 - i : Nat) : Int) by omega)) (by repeat (first | exact Pick.here | apply Pick.there)) hi (by omega) (by omega) (by decide) (by decide) (by omega)) ?_
      rintro _ _ ⟨bn, capn, rfl, rfl⟩
      refine KO.fact (fun w h => rowO_cap List.mem_cons_self w h) (fun hcn => ?_)
      rw [List.length_append, List.length_take, List.length_replicate] at hcn
      refine KO.q rfl (q_assign rfl) ?_
      refine KO.done ?_
      refine K.seq ?_
      refine K.region ?_
      refine KO.q rfl (q_move rfl) ?_
      refine KO.q rfl (q_move rfl) ?_
      refine KO.q rfl (q_cutL se_51 rfl rfl (by first | omega | (simp; omega)) (by first | omega | (simp; omega)) (by first | omega | (simp; omega))) ?_
      refine KO.q rfl (q_move rfl) ?_
      refine KO.loud rfl (l_copyA (i := i) (m := 1) Kd.e se_51 rfl rfl (by repeat (first | exact Pick.here | apply Pick.there)) isP (by repeat (first | exact List.Mem.head _ | apply List.Mem.tail)) rfl (Nat.min_eq_left (by omega)) (by rw [List.length_append, List.length_take, List.length_replicate]; omega) (by omega) (by omega)) ?_
      rintro _ _ ⟨rfl, rfl⟩
      refine KO.done ?_
      rw [ins_grow1 hi]
      refine K.seq ?_
      refine K.draw [] mixed ?_
      refine D.q 0 rfl (by kernel_rfl) (by kernel_rfl) (q_move rfl) (fun _ h => h.nil) ?_
      refine D.q 1 rfl (by kernel_rfl) (by kernel_rfl) (q_move rfl) (fun _ h => h.nil) ?_
      refine D.q 2 rfl (by kernel_rfl) (by kernel_rfl) (q_move rfl) (fun _ h => h.nil) ?_
      refine D.q 3 rfl (by kernel_rfl) (by kernel_rfl) (q_add rfl rfl (by first | omega | (simp; omega)) (by first | omega | (simp; omega))) (fun _ h => h.nil) ?_
      refine D.q 4 rfl (by kernel_rfl) (by kernel_rfl) (q_cutL se_51 rfl rfl (by first | omega | (simp; omega)) (by first | omega | (simp; omega)) (by first | omega | (simp; omega))) (fun _ h => h.nil) ?_
      refine D.q 5 rfl (by kernel_rfl) (by kernel_rfl) (q_move rfl) (fun _ h => h.nil) ?_
      refine D.q 6 rfl (by kernel_rfl) (by kernel_rfl) (q_move rfl) (fun _ h => h.nil) ?_
      refine D.q 7 rfl (by kernel_rfl) (by kernel_rfl) (q_cutL se_51 rfl rfl (by first | omega | (simp; omega)) (by first | omega | (simp; omega)) (by first | omega | (simp; omega))) (fun _ h => h.nil) ?_
      refine D.all (rs := [8]) (by kernel_rfl) rfl (DAll.cons rfl (by kernel_rfl) (l_copyA (i := i + 1) (m := l.length - i) Kd.e se_51 rfl rfl (by repeat (first | exact Pick.here | apply Pick.there)) (isO_cut i) (by repeat (first | exact List.Mem.head _ | apply List.Mem.tail)) (by rw [List.length_drop]; omega) (by show min _ _ = _; omega) (by rw [List.length_append, List.length_append, List.length_take, List.length_replicate, List.length_singleton]; omega) (by omega) (by omega)) (.inr (fun _ _ _ _ h => h.nil)) rfl ?_ DAll.nil)
      rintro _ _ ⟨rfl, rfl⟩
      refine D.done (by kernel_rfl) ?_
      rw [ins_grow2 hi]
      refine K.seq ?_
      refine K.region ?_
      refine KO.q rfl (q_move rfl) ?_
      refine KO.q rfl (q_assign rfl) ?_
      refine KO.done ?_
      refine K.ret (fn := Tryz.f26) Tryz.func26 (fun a w hk hs => res1 Tryz.results26 hk rfl) (fun w hs => ?_)
      first
        | exact ⟨_, [RowO Kd.e 63 px capx (l ++ [x])], rfl, ⟨px, capx, by simp, by rw [hins]⟩, hs.fitD⟩
        | exact ⟨_, [RowO Kd.e 63 (some ⟨bn, 0, none⟩) capn (l.take i ++ [x] ++ l.drop i)], rfl, ⟨_, _, congrArg (fun n => Value.slice _ n _) (by omega), rfl⟩, hs.fitD⟩
        | exact ⟨_, [RowO Kd.e 63 q cap (l.take i ++ [x] ++ l.drop i)], rfl, ⟨q, cap, congrArg (fun n => Value.slice _ n _) (by omega), rfl⟩, hs.fitD⟩
    · have hil : i < l.length := by omega
      refine K.skip <| K.seq ?_
      refine K.region ?_
      refine KO.q rfl (q_move rfl) ?_
      refine KO.q rfl (q_move rfl) ?_
      refine KO.q rfl (q_move rfl) ?_
      refine KO.q rfl (q_add rfl rfl (by first | omega | (simp; omega)) (by first | omega | (simp; omega))) ?_
      refine KO.q rfl (q_cutH se_51 rfl rfl (by first | omega | (simp; omega)) (by first | omega | (simp; omega))) ?_
      refine KO.q rfl (q_assign rfl) ?_
      refine KO.done ?_
      refine K.seq <| K.seq ?_
      refine K.region ?_
      refine KO.q rfl (q_move rfl) ?_
      refine KO.q rfl (q_move rfl) ?_
      refine KO.q rfl (q_move rfl) ?_
      refine KO.q rfl (q_move rfl) ?_
      refine KO.q rfl (q_add rfl rfl (by first | omega | (simp; omega)) (by first | omega | (simp; omega))) ?_
      refine KO.q rfl (q_cutL se_51 rfl rfl (by first | omega | (simp; omega)) (by first | omega | (simp; omega)) (by first | omega | (simp; omega))) ?_
      refine KO.q rfl (q_apartC (j := i + 1) (k := Kd.e) (xs := l) Tryz.func54 (by decide +kernel) rfl (by decide +kernel) (by rfl) se_51 rfl rfl (by repeat (first | exact Pick.here | apply Pick.there)) (by repeat (first | exact List.Mem.head _ | apply List.Mem.tail)) (by intro hz; rw [hz] at hil; exact absurd hil (Nat.not_lt_zero _)) (by omega) (by decide)) ?_
      refine KO.q rfl (q_not rfl) ?_
      refine KO.done ?_
      refine K.bcond (s := 68) rfl (fun g68 => ?_) (fun g68 => ?_)
      · refine K.seq ?_
        refine K.draw [] mixed ?_
        refine D.q 0 rfl (by kernel_rfl) (by kernel_rfl) (q_move rfl) (fun _ h => h.nil) ?_
        refine D.q 1 rfl (by kernel_rfl) (by kernel_rfl) (q_move rfl) (fun _ h => h.nil) ?_
        refine D.q 2 rfl (by kernel_rfl) (by kernel_rfl) (q_move rfl) (fun _ h => h.nil) ?_
        refine D.q 3 rfl (by kernel_rfl) (by kernel_rfl) (q_add rfl rfl (by first | omega | (simp; omega)) (by first | omega | (simp; omega))) (fun _ h => h.nil) ?_
        refine D.q 4 rfl (by kernel_rfl) (by kernel_rfl) (q_cutL se_51 rfl rfl (by first | omega | (simp; omega)) (by first | omega | (simp; omega)) (by first | omega | (simp; omega))) (fun _ h => h.nil) ?_
        refine D.q 5 rfl (by kernel_rfl) (by kernel_rfl) (q_move rfl) (fun _ h => h.nil) ?_
        refine D.q 6 rfl (by kernel_rfl) (by kernel_rfl) (q_move rfl) (fun _ h => h.nil) ?_
        refine D.q 7 rfl (by kernel_rfl) (by kernel_rfl) (q_cutL se_51 rfl rfl (by first | omega | (simp; omega)) (by first | omega | (simp; omega)) (by first | omega | (simp; omega))) (fun _ h => h.nil) ?_
        refine D.all (rs := [8]) (by kernel_rfl) rfl (DAll.cons rfl (by kernel_rfl) (l_copyS (i := i + 1) (s0 := i) (m := l.length - i) Kd.e se_51 rfl rfl (by repeat (first | exact Pick.here | apply Pick.there)) (by show min _ _ = _; omega) (by omega) (by omega) (by omega) (by omega)) (.inr (fun _ _ _ _ h => h.nil)) rfl ?_ DAll.nil)
        rintro _ _ ⟨rfl, rfl⟩
        refine D.done (by kernel_rfl) ?_
        rw [ins_room1 hil]
        refine K.seq ?_
        refine K.region ?_
        refine KO.q rfl (q_move rfl) ?_
        refine KO.q rfl (q_move rfl) ?_
        refine KO.q rfl (q_cutL se_51 rfl rfl (by first | omega | (simp; omega)) (by first | omega | (simp; omega)) (by first | omega | (simp; omega))) ?_
        refine KO.q rfl (q_move rfl) ?_
        refine KO.loud rfl (l_copyA (i := i) (m := 1) Kd.e se_51 rfl rfl (by repeat (first | exact Pick.here | apply Pick.there)) isP (by repeat (first | exact List.Mem.head _ | apply List.Mem.tail)) rfl (Nat.min_eq_left (by omega)) (by rw [List.length_append, List.length_take, List.length_drop]; omega) (by omega) (by omega)) ?_
        rintro _ _ ⟨rfl, rfl⟩
        refine KO.done ?_
        rw [ins_room2 hil]
        refine K.seq ?_
        refine K.region ?_
        refine KO.q rfl (q_move rfl) ?_
        refine KO.q rfl (q_assign rfl) ?_
        refine KO.done ?_
        refine K.ret (fn := Tryz.f26) Tryz.func26 (fun a w hk hs => res1 Tryz.results26 hk rfl) (fun w hs => ?_)
        first
          | exact ⟨_, [RowO Kd.e 63 px capx (l ++ [x])], rfl, ⟨px, capx, by simp, by rw [hins]⟩, hs.fitD⟩
          | exact ⟨_, [RowO Kd.e 63 (some ⟨bn, 0, none⟩) capn (l.take i ++ [x] ++ l.drop i)], rfl, ⟨_, _, congrArg (fun n => Value.slice _ n _) (by omega), rfl⟩, hs.fitD⟩
          | exact ⟨_, [RowO Kd.e 63 q cap (l.take i ++ [x] ++ l.drop i)], rfl, ⟨q, cap, congrArg (fun n => Value.slice _ n _) (by omega), rfl⟩, hs.fitD⟩
      · exact absurd g68 (by decide)
end Go.Proofs.YtcpkcjabmookmaaGreat.L
