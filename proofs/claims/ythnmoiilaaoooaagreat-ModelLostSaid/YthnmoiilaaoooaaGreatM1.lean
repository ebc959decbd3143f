/- Records of the model's deeds; what a deed is to do. -/
import Derived.Test.YthnmoiilaaoooaaGreatE9
import Derived.Test.YthnmoiilaaoooaaGreatLQ
import Derived.Test.YthnmoiilaaoooaaGreatLR
namespace Go.Proofs.YthnmoiilaaoooaaGreat.L
open Go Go.Proofs
attribute [local irreducible] pv fv pt fz RowF RowO rowP old pure_ elA
set_option maxRecDepth 100000
set_option linter.unusedSimpArgs false
set_option linter.unusedVariables false

structure Req where
  kind : Int
  name : ByteArray
  key : ByteArray
  value : ByteArray
  n : Int
  pri : Int
def Req.cells (x : Req) : List Value := [.int .i64 x.kind, .string x.name, .string x.key, .string x.value, .int .i64 x.n, .int .i64 x.pri]
theorem req_sz (x : Req) : x.cells.length = 6 := rfl
theorem req_one (x : Req) : ∀ v ∈ x.cells, v.oneCell' = true := fun v h => by simp [Req.cells] at h; rcases h with rfl | rfl | rfl | rfl | rfl | rfl <;> rfl
def Kd.req : Kd Req := Kd.flat 6 Req.cells req_sz req_one
--%rec api.Req Req
--%kd api.Req Kd.req
/-- A request and its answer, of no rows. -/
structure Deed where
  req : Req
  err : Int
  rn : Int
  row : Rw
  msg : Msg
def Deed.cells (x : Deed) : List Value := [.int .i64 x.req.kind, .string x.req.name, .string x.req.key, .string x.req.value, .int .i64 x.req.n, .int .i64 x.req.pri, .int .i64 x.err, .int .i64 x.rn, .string x.row.key, .string x.row.value, .int .i64 x.msg.id, .int .i64 x.msg.pri, .int .i64 x.msg.retry, .bool x.msg.claimed, .string x.msg.corr, .string x.msg.body, .slice none 0 0]
theorem deed_sz (x : Deed) : x.cells.length = 17 := rfl
theorem deed_one (x : Deed) : ∀ v ∈ x.cells, v.oneCell' = true := fun v h => by simp [Deed.cells] at h; rcases h with rfl | rfl | rfl | rfl | rfl | rfl | rfl | rfl | rfl | rfl | rfl | rfl | rfl | rfl | rfl | rfl | rfl <;> rfl
def Kd.deed : Kd Deed := Kd.flat 17 Deed.cells deed_sz deed_one
--%rec api.Deed Deed
--%kd api.Deed Kd.deed
--%sub api.Deed api.Req 0 sub_deed_req req_sz
--%sub api.Deed api.Row 8 sub_deed_row rw_sz
--%sub api.Deed api.Msg 10 sub_deed_msg msg_sz
theorem sub_deed_req : SubAt Deed.cells 0 Deed.req Req.cells := fun x => ⟨(x.cells.drop 6), rfl⟩
theorem sub_deed_row : SubAt Deed.cells 8 Deed.row Rw.cells := fun x => ⟨(x.cells.drop 10), rfl⟩
theorem sub_deed_msg : SubAt Deed.cells 10 Deed.msg Msg.cells := fun x => ⟨(x.cells.drop 16), rfl⟩
theorem q_as_req {X : Fx} {o : Oper} {E : Env} {L : List HP} {cs : List Value} {kind_ n_ pri_ : Int} {name_ key_ value_ : ByteArray} (h : OpQ X o E L (.agg cs.toArray)) (e : cs = [.int .i64 kind_, .string name_, .string key_, .string value_, .int .i64 n_, .int .i64 pri_]) : OpQ X o E L (.agg (Req.cells ⟨kind_, name_, key_, value_, n_, pri_⟩).toArray) := q_as h e
/-- What a deed is to do. -/
def mz0 : Msg := ⟨0, 0, 0, false, ⟨#[]⟩, ⟨#[]⟩⟩
def Eff.zero : Eff := ⟨0, ⟨#[]⟩, ⟨#[]⟩, ⟨#[]⟩, 0, 0, false, mz0⟩
def Deed.eff (d : Deed) : Option Eff :=
  if d.req.kind = 8 then some ⟨2, d.req.name, d.req.key, d.req.value, 0, 0, false, mz0⟩
  else if d.req.kind = 9 then some ⟨3, d.req.name, d.req.key, ⟨#[]⟩, 0, 0, false, mz0⟩
  else if d.req.kind = 11 then some ⟨4, d.req.name, ⟨#[]⟩, ⟨#[]⟩, 0, 0, false, ⟨d.rn, d.req.pri, 0, false, d.req.key, d.req.value⟩⟩
  else if d.req.kind = 12 ∨ d.req.kind = 13 then some ⟨5, d.req.name, ⟨#[]⟩, ⟨#[]⟩, d.msg.id, 0, false, mz0⟩
  else none
--%call poste/model.effect := mo_effect _
set_option maxHeartbeats 800000 in
theorem mo_effect (d : Deed) : Fn Tryz.prog 41 [.agg d.cells.toArray].toArray [] (fun v post => v = .tuple #[.agg (d.eff.getD Eff.zero).cells.toArray, .bool d.eff.isSome] ∧ post = []) := by
  refine Fn.enter (N := 51) Tryz.func41 rfl Tryz.ntmps41 (by kernel_rfl) rfl (fun ρ L => ?_)
  refine K.seq ?_
  refine K.region ?_
  refine KO.loud rfl (l_box rfl rfl) ?_
  rintro _ _ ⟨b1, rfl, rfl⟩
  refine KO.loud rfl (l_alloc zo_80) ?_
  rintro _ _ ⟨b2, rfl, rfl⟩
  refine KO.q rfl (q_assign rfl) ?_
  refine KO.done ?_
  refine K.seq ?_
  refine K.region ?_
  refine KO.q rfl (q_field fo_43_0 rfl) ?_
  refine KO.q rfl (q_ldPS sub_deed_req req_sz ck_36 rfl (by repeat (first | exact List.Mem.head _ | apply List.Mem.tail))) ?_
  refine KO.loud rfl (l_alloc zo_36) ?_
  rintro _ _ ⟨b4, rfl, rfl⟩
  refine KO.loudN rfl (l_storeAll ck_36 rfl rfl ⟨rfl, rfl⟩ (req_one _) (by repeat (first | exact Pick.here | apply Pick.there))) ?_
  rintro _ _ ⟨rfl, rfl⟩
  refine KO.done ?_
  refine K.seq <| K.seq ?_
  refine K.region ?_
  refine KO.q rfl (q_field fo_36_0 rfl) ?_
  refine KO.q rfl (q_load1D ck_3 rfl) ?_
  refine KO.done ?_
  refine K.block <| K.seq ?_
  refine K.region ?_
  refine KO.q rfl (q_eq rfl rfl) ?_
  refine KO.q rfl (q_assign rfl) ?_
  refine KO.done ?_
  refine K.dcond (s := 9) rfl (fun g9 => ?_) (fun g9 => ?_)
  · refine K.seq ?_
    refine K.region ?_
    refine KO.q rfl (q_field fo_36_1 rfl) ?_
    refine KO.q rfl (q_load1D ck_9 rfl) ?_
    refine KO.q rfl (q_field fo_36_2 rfl) ?_
    refine KO.q rfl (q_load1D ck_9 rfl) ?_
    refine KO.q rfl (q_field fo_36_3 rfl) ?_
    refine KO.q rfl (q_load1D ck_9 rfl) ?_
    refine KO.q rfl (q_as_eff (q_build st_80 rfl (by repeat (first | exact Fill.nil | (apply Fill.cons; rfl; rfl; rfl) | exact SetN.nil | apply SetN.cons | exact SetAt.here | apply SetAt.there))) (by rfl)) ?_
    refine KO.loudN rfl (l_storeAll ck_80 rfl rfl ⟨rfl, rfl⟩ (eff_one _) (by repeat (first | exact Pick.here | apply Pick.there))) ?_
    rintro _ _ ⟨rfl, rfl⟩
    refine KO.q rfl (q_assign rfl) ?_
    refine KO.done ?_
    refine K.ret (fn := Tryz.f41) Tryz.func41 (fun a w hk hs => resCT Tryz.results41 hk rfl ck_80 rfl (cells_pv (by repeat (first | exact List.Mem.head _ | apply List.Mem.tail)) w hs) rfl) (fun w hs => ?_)
    exact ⟨_, [], rfl, ⟨by simp [Deed.eff, Eff.zero, mz0, Eff.cells, Msg.cells, *], rfl⟩, hs.fitD⟩
  · refine K.seq ?_
    refine K.region ?_
    refine KO.q rfl (q_eq rfl rfl) ?_
    refine KO.q rfl (q_assign rfl) ?_
    refine KO.done ?_
    refine K.dcond (s := 18) rfl (fun g18 => ?_) (fun g18 => ?_)
    · refine K.seq ?_
      refine K.region ?_
      refine KO.q rfl (q_field fo_36_1 rfl) ?_
      refine KO.q rfl (q_load1D ck_9 rfl) ?_
      refine KO.q rfl (q_field fo_36_2 rfl) ?_
      refine KO.q rfl (q_load1D ck_9 rfl) ?_
      refine KO.q rfl (q_as_eff (q_build st_80 rfl (by repeat (first | exact Fill.nil | (apply Fill.cons; rfl; rfl; rfl) | exact SetN.nil | apply SetN.cons | exact SetAt.here | apply SetAt.there))) (by rfl)) ?_
      refine KO.loudN rfl (l_storeAll ck_80 rfl rfl ⟨rfl, rfl⟩ (eff_one _) (by repeat (first | exact Pick.here | apply Pick.there))) ?_
      rintro _ _ ⟨rfl, rfl⟩
      refine KO.q rfl (q_assign rfl) ?_
      refine KO.done ?_
      refine K.ret (fn := Tryz.f41) Tryz.func41 (fun a w hk hs => resCT Tryz.results41 hk rfl ck_80 rfl (cells_pv (by repeat (first | exact List.Mem.head _ | apply List.Mem.tail)) w hs) rfl) (fun w hs => ?_)
      exact ⟨_, [], rfl, ⟨by simp [Deed.eff, Eff.zero, mz0, Eff.cells, Msg.cells, *], rfl⟩, hs.fitD⟩
    · refine K.seq ?_
      refine K.region ?_
      refine KO.q rfl (q_eq rfl rfl) ?_
      refine KO.q rfl (q_assign rfl) ?_
      refine KO.done ?_
      refine K.dcond (s := 25) rfl (fun g25 => ?_) (fun g25 => ?_)
      · refine K.seq ?_
        refine K.region ?_
        refine KO.q rfl (q_field fo_36_1 rfl) ?_
        refine KO.q rfl (q_load1D ck_9 rfl) ?_
        refine KO.q rfl (q_field fo_43_1 rfl) ?_
        refine KO.q rfl (q_field fo_41_1 rfl) ?_
        refine KO.q rfl (q_load1D ck_3 rfl) ?_
        refine KO.q rfl (q_field fo_36_5 rfl) ?_
        refine KO.q rfl (q_load1D ck_3 rfl) ?_
        refine KO.q rfl (q_field fo_36_2 rfl) ?_
        refine KO.q rfl (q_load1D ck_9 rfl) ?_
        refine KO.q rfl (q_field fo_36_3 rfl) ?_
        refine KO.q rfl (q_load1D ck_9 rfl) ?_
        refine KO.q rfl (q_as_msg (q_build st_39 rfl (by repeat (first | exact Fill.nil | (apply Fill.cons; rfl; rfl; rfl) | exact SetN.nil | apply SetN.cons | exact SetAt.here | apply SetAt.there))) (by rfl)) ?_
        refine KO.q rfl (q_as_eff (q_build st_80 rfl (by repeat (first | exact Fill.nil | (apply Fill.cons; rfl; rfl; rfl) | exact SetN.nil | apply SetN.cons | exact SetAt.here | apply SetAt.there))) (by rfl)) ?_
        refine KO.loudN rfl (l_storeAll ck_80 rfl rfl ⟨rfl, rfl⟩ (eff_one _) (by repeat (first | exact Pick.here | apply Pick.there))) ?_
        rintro _ _ ⟨rfl, rfl⟩
        refine KO.q rfl (q_assign rfl) ?_
        refine KO.done ?_
        refine K.ret (fn := Tryz.f41) Tryz.func41 (fun a w hk hs => resCT Tryz.results41 hk rfl ck_80 rfl (cells_pv (by repeat (first | exact List.Mem.head _ | apply List.Mem.tail)) w hs) rfl) (fun w hs => ?_)
        exact ⟨_, [], rfl, ⟨by simp [Deed.eff, Eff.zero, mz0, Eff.cells, Msg.cells, *], rfl⟩, hs.fitD⟩
      · refine K.seq <| K.seq ?_
        refine K.region ?_
        refine KO.q rfl (q_eq rfl rfl) ?_
        refine KO.q rfl (q_assign rfl) ?_
        refine KO.done ?_
        refine K.dcond (s := 40) rfl (fun g40 => ?_) (fun g40 => ?_)
        · refine K.skip ?_
          refine K.yes rfl ?_
          refine K.seq ?_
          refine K.region ?_
          refine KO.q rfl (q_field fo_36_1 rfl) ?_
          refine KO.q rfl (q_load1D ck_9 rfl) ?_
          refine KO.q rfl (q_field fo_43_1 rfl) ?_
          refine KO.q rfl (q_field fo_41_3 rfl) ?_
          refine KO.q rfl (q_field fo_39_0 rfl) ?_
          refine KO.q rfl (q_load1D ck_3 rfl) ?_
          refine KO.q rfl (q_as_eff (q_build st_80 rfl (by repeat (first | exact Fill.nil | (apply Fill.cons; rfl; rfl; rfl) | exact SetN.nil | apply SetN.cons | exact SetAt.here | apply SetAt.there))) (by rfl)) ?_
          refine KO.loudN rfl (l_storeAll ck_80 rfl rfl ⟨rfl, rfl⟩ (eff_one _) (by repeat (first | exact Pick.here | apply Pick.there))) ?_
          rintro _ _ ⟨rfl, rfl⟩
          refine KO.q rfl (q_assign rfl) ?_
          refine KO.done ?_
          refine K.ret (fn := Tryz.f41) Tryz.func41 (fun a w hk hs => resCT Tryz.results41 hk rfl ck_80 rfl (cells_pv (by repeat (first | exact List.Mem.head _ | apply List.Mem.tail)) w hs) rfl) (fun w hs => ?_)
          exact ⟨_, [], rfl, ⟨by simp [Deed.eff, Eff.zero, mz0, Eff.cells, Msg.cells, *], rfl⟩, hs.fitD⟩
        · refine K.region ?_
          refine KO.q rfl (q_eq rfl rfl) ?_
          refine KO.q rfl (q_assign rfl) ?_
          refine KO.done ?_
          refine K.dcond (s := 40) rfl (fun g40 => ?_) (fun g40 => ?_)
          · refine K.seq ?_
            refine K.region ?_
            refine KO.q rfl (q_field fo_36_1 rfl) ?_
            refine KO.q rfl (q_load1D ck_9 rfl) ?_
            refine KO.q rfl (q_field fo_43_1 rfl) ?_
            refine KO.q rfl (q_field fo_41_3 rfl) ?_
            refine KO.q rfl (q_field fo_39_0 rfl) ?_
            refine KO.q rfl (q_load1D ck_3 rfl) ?_
            refine KO.q rfl (q_as_eff (q_build st_80 rfl (by repeat (first | exact Fill.nil | (apply Fill.cons; rfl; rfl; rfl) | exact SetN.nil | apply SetN.cons | exact SetAt.here | apply SetAt.there))) (by rfl)) ?_
            refine KO.loudN rfl (l_storeAll ck_80 rfl rfl ⟨rfl, rfl⟩ (eff_one _) (by repeat (first | exact Pick.here | apply Pick.there))) ?_
            rintro _ _ ⟨rfl, rfl⟩
            refine KO.q rfl (q_assign rfl) ?_
            refine KO.done ?_
            refine K.ret (fn := Tryz.f41) Tryz.func41 (fun a w hk hs => resCT Tryz.results41 hk rfl ck_80 rfl (cells_pv (by repeat (first | exact List.Mem.head _ | apply List.Mem.tail)) w hs) rfl) (fun w hs => ?_)
            exact ⟨_, [], rfl, ⟨by simp [Deed.eff, Eff.zero, mz0, Eff.cells, Msg.cells, *], rfl⟩, hs.fitD⟩
          · refine K.skip <| K.inBlock <| K.seq ?_
            refine K.region ?_
            refine KO.q rfl (q_as_eff (q_build st_80 rfl (by repeat (first | exact Fill.nil | (apply Fill.cons; rfl; rfl; rfl) | exact SetN.nil | apply SetN.cons | exact SetAt.here | apply SetAt.there))) (by rfl)) ?_
            refine KO.loudN rfl (l_storeAll ck_80 rfl rfl ⟨rfl, rfl⟩ (eff_one _) (by repeat (first | exact Pick.here | apply Pick.there))) ?_
            rintro _ _ ⟨rfl, rfl⟩
            refine KO.q rfl (q_assign rfl) ?_
            refine KO.done ?_
            refine K.ret (fn := Tryz.f41) Tryz.func41 (fun a w hk hs => resCT Tryz.results41 hk rfl ck_80 rfl (cells_pv (by repeat (first | exact List.Mem.head _ | apply List.Mem.tail)) w hs) rfl) (fun w hs => ?_)
            exact ⟨_, [], rfl, ⟨by simp [Deed.eff, Eff.zero, mz0, Eff.cells, Msg.cells, *], rfl⟩, hs.fitD⟩
def effsD (l : List Deed) : List Eff := l.filterMap Deed.eff
theorem effsD_succ {l : List Deed} {i : Nat} {d : Deed} (h : l[i]? = some d) : effsD (l.take (i + 1)) = effsD (l.take i) ++ d.eff.toList := by
  unfold effsD
  obtain ⟨h1, h2⟩ := List.getElem?_eq_some_iff.1 h
  rw [List.take_add_one, h, List.filterMap_append]
  cases he : d.eff <;> simp [he]
theorem effsD_len (l : List Deed) : (effsD l).length ≤ l.length := List.length_filterMap_le _ _
set_option maxHeartbeats 800000 in
theorem mo_effects (A : HP) (b : Nat) (q : Option Addr) (c : Nat) (l : List Deed) (most : Int) (hA : IsRow A Kd.deed q l) (hl : l.length ≤ 1000000) : Fn Tryz.prog 33 [.pointer (some ⟨b, 0, none⟩)].toArray [pv b 74 [.slice q l.length c, .int .i64 most], A]
    (fun r post => ∃ po co, r = .slice po (effsD l).length co ∧ post = [RowO Kd.eff 80 po co (effsD l), pv b 74 [.slice q l.length c, .int .i64 most], A]) := by
  refine Fn.enter (N := 29) Tryz.func33 rfl Tryz.ntmps33 (by kernel_rfl) rfl (fun ρ L => ?_)
  refine K.seq ?_
  refine K.region ?_
  refine KO.q rfl (q_assign rfl) ?_
  refine KO.done ?_
  refine K.seq ?_
  refine K.region ?_
  refine KO.q rfl (q_assign rfl) ?_
  refine KO.done ?_
  refine K.seq <| K.seq ?_
  refine K.region ?_
  refine KO.q rfl (q_move rfl) ?_
  refine KO.q rfl (q_nilCheck rfl) ?_
  refine KO.q rfl (q_field fo_74_0 rfl) ?_
  refine KO.q rfl (q_load1D ck_46 rfl) ?_
  refine KO.q rfl (q_len Tryz.underlying46 rfl) ?_
  refine KO.q rfl (q_move rfl) ?_
  refine KO.done ?_
  refine K.block ?_
  refine K.rounds2 (ι := { x : Nat × Option Addr × Nat // x.1 ≤ l.length }) (fun x => [(13, .int .i64 x.1.1), (12, .int .i64 l.length), (11, .slice q l.length c), (3, .slice x.1.2.1 (effsD (l.take x.1.1)).length x.1.2.2)]) (fun x => RowO Kd.eff 80 x.1.2.1 x.1.2.2 (effsD (l.take x.1.1)) :: [pv b 74 [.slice q l.length c, .int .i64 most], A] ++ L) (fun x => l.length - x.1.1) ⟨(0, none, 0), Nat.zero_le _⟩ (by repeat (first | exact Env.sub_nil _ | refine Env.sub_cons rfl ?_)) (fun w h => rowO_nil (k := Kd.eff) 80 (h.fit (M := [pv b 74 [.slice q l.length c, .int .i64 most], A]) (by repeat (first | exact Give.nil | (apply Give.perI; (repeat (first | exact List.Mem.head _ | apply List.Mem.tail))) | (apply Give.own; (repeat (first | exact Pick.here | apply Pick.there))))) (by repeat (first | exact Drop.refl | apply Drop.skip)))) (fun x ih => ?_)
  obtain ⟨⟨i, po, co⟩, hi⟩ := x
  dsimp only at hi ⊢
  have hol := effsD_len (l.take i)
  have hol2 := List.length_take_le i l
  refine K.seq ?_
  refine K.region ?_
  refine KO.q rfl (q_lt rfl rfl) ?_
  refine KO.done ?_
  refine K.seq ?_
  refine K.dcond (s := 14) rfl (fun g14 => ?_) (fun g14 => ?_)
  · obtain ⟨d, hd⟩ : ∃ d, l[i]? = some d := ⟨_, List.getElem?_eq_getElem (by omega)⟩
    have hes := effsD_succ hd
    refine K.skip <| K.seq <| K.block <| K.seq ?_
    refine K.region ?_
    refine KO.q rfl (q_ix (xs := l) i se_46 rfl rfl rfl hA (by repeat (first | exact List.Mem.head _ | apply List.Mem.tail)) rfl (by omega)) ?_
    refine KO.q rfl (q_ldEN (xs := l) (enc := Deed.cells) ck_43 rfl hA (by repeat (first | exact List.Mem.head _ | apply List.Mem.tail)) hd) ?_
    refine KO.loud rfl (l_alloc zo_43) ?_
    rintro _ _ ⟨b5, rfl, rfl⟩
    refine KO.loudN rfl (l_storeAll ck_43 rfl rfl ⟨rfl, rfl⟩ (deed_one _) (by repeat (first | exact Pick.here | apply Pick.there))) ?_
    rintro _ _ ⟨rfl, rfl⟩
    refine KO.done ?_
    refine K.seq ?_
    refine K.region ?_
    refine KO.q rfl (q_loadN ck_43 rfl rfl (by first | (apply cells_pv; (repeat (first | exact List.Mem.head _ | apply List.Mem.tail))) | (apply cells_fv; (repeat (first | exact List.Mem.head _ | apply List.Mem.tail))))) ?_
    refine KO.loud rfl (OpL.callD rfl (h := mo_effect _)) ?_
    rintro _ _ ⟨_, ⟨rfl, rfl⟩, rfl⟩
    refine KO.q rfl (q_move rfl) ?_
    refine KO.q rfl (q_extract rfl rfl) ?_
    refine KO.q rfl (q_extract rfl rfl) ?_
    refine KO.loud rfl (l_alloc zo_80) ?_
    rintro _ _ ⟨b6, rfl, rfl⟩
    refine KO.loudN rfl (l_storeAll ck_80 rfl rfl ⟨rfl, rfl⟩ (eff_one _) (by repeat (first | exact Pick.here | apply Pick.there))) ?_
    rintro _ _ ⟨rfl, rfl⟩
    refine KO.q rfl (q_assign rfl) ?_
    refine KO.done ?_
    refine K.seq ?_
    refine K.region ?_
    refine KO.q rfl (q_move rfl) ?_
    refine KO.done ?_
    first | refine K.dcond (s := 22) rfl (fun g22 => ?_) (fun g22 => ?_) | refine K.bcond (s := 22) rfl (fun g22 => ?_) (fun g22 => ?_)
    · obtain ⟨e, he⟩ : ∃ e, d.eff = some e := Option.isSome_iff_exists.1 (by simpa using g22)
      have hge : d.eff.getD Eff.zero = e := by rw [he]; rfl
      rw [hge]
      rw [he, show (some e).toList = [e] from rfl] at hes
      refine K.region ?_
      refine KO.q rfl (q_move rfl) ?_
      refine KO.q rfl (q_loadN ck_80 rfl rfl (by first | (apply cells_pv; (repeat (first | exact List.Mem.head _ | apply List.Mem.tail))) | (apply cells_fv; (repeat (first | exact List.Mem.head _ | apply List.Mem.tail))))) ?_
      refine KO.loud rfl (l_slice1 sz_81_1 rfl rfl ⟨rfl, rfl, rfl⟩) ?_
      rintro _ _ ⟨b25, rfl, rfl⟩
      refine KO.loud rfl (l_append Kd.eff (ys := [e]) se_81 Tryz.underlying81 ⟨_, ze_80, rfl⟩ (by decide) rfl rfl (by repeat (first | exact Pick.here | apply Pick.there)) isP (by repeat (first | exact List.Mem.head _ | apply List.Mem.tail)) rfl rfl (by show (2 * ((effsD (l.take i)).length + 1) + 768) * _ ≤ _; omega)) ?_
      rintro _ _ ⟨pn, dn, rfl, rfl⟩
      refine KO.q rfl (q_assign rfl) ?_
      refine KO.done ?_
      refine K.inBlock ?_
      refine K.region ?_
      refine KO.q rfl (q_add rfl rfl (by first | omega | (simp; omega)) (by first | omega | (simp; omega))) ?_
      refine KO.q rfl (q_move rfl) ?_
      refine KO.done ?_
      exact K.weak (E' := [(13, .int .i64 ((i + 1 : Nat) : Int)), (12, .int .i64 l.length), (11, .slice q l.length c), (3, .slice pn (effsD (l.take (i + 1))).length dn)]) (by rw [hes]; exact (by repeat (first | exact Env.sub_nil _ | refine Env.sub_cons rfl ?_))) (fun w h => by rw [hes]; exact h.fitD) (ih ⟨(i + 1, pn, dn), by show i + 1 ≤ _; omega⟩ (by show l.length - (i + 1) < l.length - i; omega))
    · have he : d.eff = none := by simpa using g22
      rw [he, show (none : Option Eff).toList = [] from rfl, List.append_nil] at hes
      refine K.skip <| K.inBlock ?_
      refine K.region ?_
      refine KO.q rfl (q_add rfl rfl (by first | omega | (simp; omega)) (by first | omega | (simp; omega))) ?_
      refine KO.q rfl (q_move rfl) ?_
      refine KO.done ?_
      exact K.weak (E' := [(13, .int .i64 ((i + 1 : Nat) : Int)), (12, .int .i64 l.length), (11, .slice q l.length c), (3, .slice po (effsD (l.take (i + 1))).length co)]) (by rw [hes]; exact (by repeat (first | exact Env.sub_nil _ | refine Env.sub_cons rfl ?_))) (fun w h => by rw [hes]; exact h.fitD) (ih ⟨(i + 1, po, co), by show i + 1 ≤ _; omega⟩ (by show l.length - (i + 1) < l.length - i; omega))
  · obtain rfl : i = l.length := by omega
    rw [List.take_length] at *
    clear ih
    refine K.exit rfl ?_
    refine K.seq ?_
    refine K.region ?_
    refine KO.q rfl (q_move rfl) ?_
    refine KO.q rfl (q_assign rfl) ?_
    refine KO.done ?_
    refine K.ret (fn := Tryz.f33) Tryz.func33 (fun a w hk hs => res1 Tryz.results33 hk rfl) (fun w hs => ?_)
    exact ⟨_, [RowO Kd.eff 80 po co (effsD l), pv b 74 [.slice q l.length c, .int .i64 most], A], rfl, ⟨po, co, rfl, rfl⟩, hs.fitD⟩
end Go.Proofs.YthnmoiilaaoooaaGreat.L
