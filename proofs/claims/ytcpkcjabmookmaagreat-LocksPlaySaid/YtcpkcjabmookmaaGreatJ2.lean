/- Walks: an entry of the locks' table. -/
import Derived.Test.YtcpkcjabmookmaaGreatH7
import Derived.Test.YtcpkcjabmookmaaGreatJ1
namespace Go.Proofs.YtcpkcjabmookmaaGreat.L
open Go Go.Proofs
attribute [local irreducible] pv fv pt fz RowF RowO rowP old pure_ elA
set_option maxRecDepth 100000
set_option linter.unusedSimpArgs false
set_option linter.unusedVariables false

/-- An entry: a name, where its lock lies, and the lock. -/
structure E where
  name : Nm
  p : Option Nat
  k : Lk
def E.cells (e : E) : List Value := [.int .i64 e.name.deep, .string e.name.object, .string e.name.row, .pointer (e.p.map fun b => ⟨b, 0, none⟩)]
theorem e_sz (e : E) : e.cells.length = 4 := rfl
theorem e_one (e : E) : ∀ v ∈ e.cells, v.oneCell' = true := fun v h => by simp [E.cells] at h; rcases h with rfl | rfl | rfl | rfl <;> rfl
def Kd.e : Kd E := Kd.flat 4 E.cells e_sz e_one
theorem sub_e_name : SubAt E.cells 0 E.name Nm.cells := fun e => ⟨[.pointer (e.p.map fun b => ⟨b, 0, none⟩)], rfl⟩
--%rec locks.entry E
--%kd locks.entry Kd.e
--%sub locks.entry api.Name 0 sub_e_name nm_sz
def LkE (e : E) : HP := HP.ex (fun b : { b : Nat // e.p = some b } => [LkX b.1 e.k])
theorem tb_open {es : List E} {i : Nat} {e : E} {ρ : World} {L : List HP} {w : World} (he : es[i]? = some e) (h : St ρ (AllO LkE es :: L) w) : ∃ b : { b : Nat // e.p = some b }, St ρ (LkX b.1 e.k :: AllO LkE (es.eraseIdx i) :: L) w := St.exO (f := fun b : { b : Nat // e.p = some b } => [LkX b.1 e.k]) (allO_out (f := LkE) he h)
theorem tb_close {es : List E} {i : Nat} {e : E} {b : Nat} {ρ : World} {L : List HP} {w : World} (hb : e.p = some b) (hi : i < es.length) (h : St ρ (LkX b e.k :: AllO LkE (es.eraseIdx i) :: L) w) : St ρ (AllO LkE (es.set i e) :: L) w :=
  allO_put (pick_map_set LkE hi) (St.exI (f := fun b : { b : Nat // e.p = some b } => [LkX b.1 e.k]) ⟨b, hb⟩ h)
theorem set_self {α : Type} {l : List α} {i : Nat} {x : α} (h : l[i]? = some x) : l.set i x = l := by
  obtain ⟨hi, rfl⟩ := List.getElem?_eq_some_iff.1 h
  exact List.set_getElem_self hi
theorem tb_back {es : List E} {i : Nat} {e : E} {b : Nat} {ρ : World} {L : List HP} {w : World} (he : es[i]? = some e) (hb : e.p = some b) (h : St ρ (LkX b e.k :: AllO LkE (es.eraseIdx i) :: L) w) : St ρ (AllO LkE es :: L) w := by
  have := tb_close hb (List.getElem?_eq_some_iff.1 he).1 h
  rwa [set_self he] at this
def Lk.mine (k : Lk) (who : Int) : Bool := decide (0 ≤ atH k.holds who)
def Lk.my (k : Lk) (who : Int) : Hold := if 0 ≤ atH k.holds who then k.holds.getD (atH k.holds who).toNat ⟨0, 0, 0⟩ else ⟨0, 0, 0⟩
theorem ixf_hold (A R : HP) (q : Option Addr) (cap : Nat) (l : List Hold) (hA : IsRow A Kd.hold q l) (f : FuncId) (cs : List Value) (p : Hold → Bool) (hl : (l.length : Int) ≤ 9223372036854775807) (hf : ∀ x ∈ l, Fn Tryz.prog f (Value.agg x.cells.toArray :: cs).toArray [R] (fun v post => v = .bool (p x) ∧ post = [R])) :
    Fn Tryz.prog 52 [.slice q l.length cap, .func (.func f) #[] cs.toArray].toArray [A, R] (fun r post => r = .int .i64 (idxP p l) ∧ post = [A, R]) := by
  refine Fn.enter (N := 19) Tryz.func52 rfl Tryz.ntmps52 (by kernel_rfl) rfl (fun ρ L => ?_)
  refine K.seq ?_
  refine K.region ?_
  refine KO.q rfl (q_assign rfl) ?_
  refine KO.done ?_
  refine K.seq <| K.seq ?_
  refine K.region ?_
  refine KO.q rfl (q_move rfl) ?_
  refine KO.q rfl (q_len Tryz.underlying74 rfl) ?_
  refine KO.q rfl (q_move rfl) ?_
  refine KO.done ?_
  refine K.block ?_
  refine K.rloop (ι := { i : Nat // i ≤ l.length ∧ (l.take i).any p = false }) (fun x => [(8, .int .i64 x.1), (7, .int .i64 l.length), (0, .slice q l.length cap), (1, .func (.func f) #[] cs.toArray)]) (fun x => l.length - x.1) ⟨0, Nat.zero_le _, rfl⟩ (by repeat (first | exact Env.sub_nil _ | refine Env.sub_cons rfl ?_)) (fun x ih => ?_)
  obtain ⟨i, hi, hz⟩ := x
  dsimp only at hi hz ⊢
  refine K.seq ?_
  refine K.region ?_
  refine KO.q rfl (q_lt rfl rfl) ?_
  refine KO.done ?_
  refine K.seq ?_
  refine K.dcond (s := 9) rfl (fun g9 => ?_) (fun g9 => ?_)
  · obtain ⟨e, he⟩ : ∃ e, l[i]? = some e := ⟨_, List.getElem?_eq_getElem (by omega)⟩
    refine K.skip <| K.seq <| K.block <| K.seq ?_
    refine K.region ?_
    refine KO.q rfl (q_move rfl) ?_
    refine KO.q rfl (q_assign rfl) ?_
    refine KO.done ?_
    refine K.seq ?_
    refine K.region ?_
    refine KO.q rfl (q_move rfl) ?_
    refine KO.q rfl (q_move rfl) ?_
    refine KO.q rfl (q_move rfl) ?_
    refine KO.q rfl (q_ix i se_74 rfl rfl rfl hA (by repeat (first | exact List.Mem.head _ | apply List.Mem.tail)) rfl (by omega)) ?_
    refine KO.q rfl (q_ldEN ck_59 rfl hA (by repeat (first | exact List.Mem.head _ | apply List.Mem.tail)) he) ?_
    refine KO.loud rfl (OpL.callCG (first := []) (captured := cs) rfl rfl (by repeat (first | exact Give.nil | (apply Give.perI; (repeat (first | exact List.Mem.head _ | apply List.Mem.tail))) | (apply Give.own; (repeat (first | exact Pick.here | apply Pick.there))))) (hf e (List.mem_of_getElem? he))) ?_
    rintro _ _ ⟨_, ⟨rfl, rfl⟩, rfl⟩
    refine KO.done ?_
    refine K.bcond (s := 16) rfl (fun g16 => ?_) (fun g16 => ?_)
    · refine K.seq ?_
      have hr : idxP p l = i := idxP_some he g16 hz
      refine K.region ?_
      refine KO.q rfl (q_move rfl) ?_
      refine KO.q rfl (q_assign rfl) ?_
      refine KO.done ?_
      refine K.ret (fn := Tryz.f52) Tryz.func52 (fun a w hk hs => res1 Tryz.results52 hk rfl) (fun w hs => ?_)
      rw [hr]
      exact ⟨_, [A, R], rfl, ⟨rfl, rfl⟩, hs.fitD⟩
    · refine K.skip <| K.inBlock ?_
      refine K.region ?_
      refine KO.q rfl (q_add rfl rfl (by first | omega | (simp; omega)) (by first | omega | (simp; omega))) ?_
      refine KO.q rfl (q_move rfl) ?_
      refine KO.done ?_
      exact K.weak (by repeat (first | exact Env.sub_nil _ | refine Env.sub_cons rfl ?_)) (fun w h => h.fitD) (ih ⟨i + 1, by omega, by rw [any_take_succ he, hz, g16]; rfl⟩ (by show l.length - (i + 1) < l.length - i; omega))
  · refine K.exit rfl ?_
    refine K.seq ?_
    have hr : idxP p l = -1 := idxP_none (by rw [List.take_of_length_le (by omega)] at hz; exact hz)
    refine K.region ?_
    refine KO.q rfl (q_assign rfl) ?_
    refine KO.done ?_
    refine K.ret (fn := Tryz.f52) Tryz.func52 (fun a w hk hs => res1 Tryz.results52 hk rfl) (fun w hs => ?_)
    rw [hr]
    exact ⟨_, [A, R], rfl, ⟨rfl, rfl⟩, hs.fitD⟩
theorem en_hold1 (b : Nat) (who : Int) (x : Hold) : Fn Tryz.prog 53 [.agg x.cells.toArray, .pointer (some ⟨b, 0, none⟩)].toArray [pv b 3 [.int .i64 who]] (fun v post => v = .bool (decide (x.who = who)) ∧ post = [pv b 3 [.int .i64 who]]) := by
  refine Fn.enter (N := 8) Tryz.func53 rfl Tryz.ntmps53 (by kernel_rfl) rfl (fun ρ L => ?_)
  refine K.seq ?_
  refine K.region ?_
  refine KO.loud rfl (l_box rfl rfl) ?_
  rintro _ _ ⟨b2, rfl, rfl⟩
  refine KO.q rfl (q_assign rfl) ?_
  refine KO.done ?_
  refine K.seq ?_
  refine K.region ?_
  refine KO.q rfl (q_field fo_59_0 rfl) ?_
  refine KO.q rfl (q_load1D ck_3 rfl) ?_
  refine KO.q rfl (q_load1D ck_3 rfl) ?_
  refine KO.q rfl (q_eq rfl rfl) ?_
  refine KO.q rfl (q_assign rfl) ?_
  refine KO.done ?_
  refine K.ret (fn := Tryz.f53) Tryz.func53 (fun a w hk hs => res1 Tryz.results53 hk rfl) (fun w hs => ?_)
  exact ⟨_, [pv b 3 [.int .i64 who]], rfl, ⟨rfl, rfl⟩, hs.fitD⟩
set_option maxHeartbeats 800000 in
theorem en_hold (n : Nm) (b : Nat) (k : Lk) (who : Int) (hl : k.size ≤ 1000000) : Fn Tryz.prog 24 [.agg (E.cells ⟨n, some b, k⟩).toArray, .int .i64 who].toArray [LkX b k] (fun r post => r = .tuple #[.agg (k.my who).cells.toArray, .bool (k.mine who)] ∧ post = [LkX b k]) := by
  have hol := k.holds_len
  refine Fn.enter (N := 21) Tryz.func24 rfl Tryz.ntmps24 (by kernel_rfl) rfl (fun ρ L => ?_)
  refine K.seq ?_
  refine K.region ?_
  refine KO.loud rfl (l_box rfl rfl) ?_
  rintro _ _ ⟨b2, rfl, rfl⟩
  refine KO.loud rfl (l_box rfl rfl) ?_
  rintro _ _ ⟨b3, rfl, rfl⟩
  refine KO.loud rfl (l_alloc zo_59) ?_
  rintro _ _ ⟨b4, rfl, rfl⟩
  refine KO.q rfl (q_assign rfl) ?_
  refine KO.done ?_
  refine K.seq ?_
  refine K.region ?_
  refine KO.q rfl (q_field fo_63_1 rfl) ?_
  refine KO.q rfl (q_load1D ck_61 rfl) ?_
  refine KO.loud rfl (OpL.callD rfl (h := lk_HoldsX b k hl)) ?_
  rintro _ _ ⟨_, ⟨p3, d3, rfl, rfl⟩, rfl⟩
  refine KO.q rfl (q_assign rfl) ?_
  refine KO.done ?_
  refine K.seq ?_
  refine K.region ?_
  refine KO.q rfl (q_move rfl) ?_
  refine KO.q rfl (q_func rfl rfl) ?_
  refine KO.loud rfl (OpL.callD rfl (h := ixf_hold (RowO Kd.hold 59 p3 d3 k.holds) (pv b3 3 [.int .i64 who]) p3 d3 k.holds isO 53 [.pointer (some ⟨b3, 0, none⟩)] (fun x => decide (x.who = who)) (by omega) (fun x _ => en_hold1 b3 who x))) ?_
  rintro _ _ ⟨_, ⟨rfl, rfl⟩, rfl⟩
  refine KO.q rfl (q_assign rfl) ?_
  refine KO.done ?_
  refine K.seq <| K.seq ?_
  refine K.region ?_
  refine KO.q rfl (q_move rfl) ?_
  refine KO.q rfl (q_lt rfl rfl) ?_
  refine KO.done ?_
  refine K.dcond (s := 15) rfl (fun g15 => ?_) (fun g15 => ?_)
  · have hn : ¬ 0 ≤ atH k.holds who := by unfold atH; omega
    have hr1 : k.mine who = false := decide_eq_false hn
    have hr2 : k.my who = ⟨0, 0, 0⟩ := by unfold Lk.my; rw [if_neg hn]
    refine K.seq ?_
    refine K.region ?_
    refine KO.q rfl (q_as_hold (q_build st_59 rfl (by repeat (first | exact Fill.nil | (apply Fill.cons; rfl; rfl; rfl) | exact SetN.nil | apply SetN.cons | exact SetAt.here | apply SetAt.there))) (by rfl)) ?_
    refine KO.loudN rfl (l_storeAll ck_59 rfl rfl ⟨rfl, rfl⟩ (hold_one _) (by repeat (first | exact Pick.here | apply Pick.there))) ?_
    rintro _ _ ⟨rfl, rfl⟩
    refine KO.q rfl (q_assign rfl) ?_
    refine KO.done ?_
    refine K.ret (fn := Tryz.f24) Tryz.func24 (fun a w hk hs => resCT Tryz.results24 hk rfl ck_59 rfl (cells_pv (by repeat (first | exact List.Mem.head _ | apply List.Mem.tail)) w hs) rfl) (fun w hs => ?_)
    rw [hr1, hr2]
    exact ⟨_, [LkX b k], rfl, ⟨rfl, rfl⟩, hs.fitD⟩
  · have hn : 0 ≤ atH k.holds who := by unfold atH; omega
    obtain ⟨j, ho, hj, hji, hw⟩ := atH_some hn
    have hji' : idxP (fun x => decide (x.who = who)) k.holds = (j : Int) := hji
    have hr1 : k.mine who = true := decide_eq_true hn
    have hr2 : k.my who = ho := by unfold Lk.my; rw [if_pos hn, hji, Int.toNat_natCast, List.getD_eq_getElem?_getD, hj]; rfl
    refine K.skip <| K.seq ?_
    refine K.region ?_
    refine KO.q rfl (q_move rfl) ?_
    refine KO.q rfl (q_move rfl) ?_
    refine KO.q rfl (q_ix (xs := k.holds) j se_74 rfl rfl hji' isO (by repeat (first | exact List.Mem.head _ | apply List.Mem.tail)) rfl (List.getElem?_eq_some_iff.1 hj).1) ?_
    refine KO.q rfl (q_ldEN (xs := k.holds) ck_59 rfl isO (by repeat (first | exact List.Mem.head _ | apply List.Mem.tail)) hj) ?_
    refine KO.loudN rfl (l_storeAll ck_59 rfl rfl ⟨rfl, rfl⟩ (hold_one _) (by repeat (first | exact Pick.here | apply Pick.there))) ?_
    rintro _ _ ⟨rfl, rfl⟩
    refine KO.q rfl (q_assign rfl) ?_
    refine KO.done ?_
    refine K.ret (fn := Tryz.f24) Tryz.func24 (fun a w hk hs => resCT Tryz.results24 hk rfl ck_59 rfl (cells_pv (by repeat (first | exact List.Mem.head _ | apply List.Mem.tail)) w hs) rfl) (fun w hs => ?_)
    rw [hr1, hr2]
    exact ⟨_, [LkX b k], rfl, ⟨rfl, rfl⟩, hs.fitD⟩
end Go.Proofs.YtcpkcjabmookmaaGreat.L
