/- The law LocksFree, walked. -/
import Derived.Test.YtfpkeanimkgpaaaK1
import Derived.Test.YtfpkeanimkgpaaaPU
import Derived.Test.YtfpkeanimkgpaaaAN
namespace Go.Proofs.Ytfpkeanimkgpaaa.L
open Go Go.Proofs
attribute [local irreducible] pv fv pt fz RowF RowO rowP old pure_ elA
set_option maxRecDepth 100000
set_option linter.unusedSimpArgs false
set_option linter.unusedVariables false

section
variable {X : Fx} {E : Env} {L : List HP} {d : Option Tmp} {ty : TypeId} {pos : String} {af : Array Edge} {gd : Option (Nat × Bool)} {t u : TypeId} {x y ix : Operand}
def mkN (c : Nat) (a : Int) : Nat := (BitVec.ofInt 64 a &&& BitVec.ofInt 64 (c : Int)).toNat
theorem mkN_le (c : Nat) (hc : c < 1000000) (a : Int) : mkN c a ≤ c := by
  unfold mkN
  rw [BitVec.toNat_and]
  refine Nat.le_trans Nat.and_le_right ?_
  rw [BitVec.ofInt_natCast, BitVec.toNat_ofNat]
  exact Nat.mod_le _ _
theorem q_mask {a : Int} (c : Nat) (hc : c < 1000000) (hx : Env.ev E x = some (.int .i64 a)) (hy : Env.ev E y = some (.int .i64 (c : Int))) : OpQ X ⟨d, .binOp .and t x y u, ty, pos, af, gd⟩ E L (.int .i64 (mkN c a : Nat)) := by
  have h := q_and (X := X) (L := L) (d := d) (ty := ty) (pos := pos) (af := af) (gd := gd) (t := t) (u := u) hx hy
  have h2 : IntKind.i64.wrap (((BitVec.ofInt IntKind.i64.bits a &&& BitVec.ofInt IntKind.i64.bits (c : Int)).toNat : Nat) : Int) = ((mkN c a : Nat) : Int) := by
    have := mkN_le c hc a
    show IntKind.i64.wrap ((mkN c a : Nat) : Int) = _
    exact wrap_i64 (by omega) (by omega)
  rwa [h2] at h
theorem q_ixAE {n e m sz j : Nat} {p : Option Addr} {k : IntKind} (c : Nat) (hs : arElem X.P t = some (n, e, 1)) (hx : Env.ev E x = some (.pointer (some (elA p m sz j)))) (hi : Env.ev E ix = some (.int k (c : Int))) (h1 : c < n) : OpQ X ⟨d, .indexAddr t x ix, ty, pos, af, gd⟩ E L (.pointer (some (elA p m sz (j + c)))) := by
  have h := q_ixA (X := X) (L := L) (d := d) (ty := ty) (pos := pos) (af := af) (gd := gd) hs hx hi (Int.natCast_nonneg c) (by omega)
  have h2 : (elA p m sz j).add ((c : Int).toNat * 1) = elA p m sz (j + c) := by
    rw [Int.toNat_natCast, Nat.mul_one]
    unfold elA Addr.add
    split
    · rename_i h0
      rw [h0]; rfl
    · show Addr.mk (rowB p) (rowS p + m * sz + j + c) none = Addr.mk (rowB p) (rowS p + m * sz + (j + c)) none
      rw [Nat.add_assoc]
  rwa [h2] at h
end
def abcd : ByteArray := ⟨#[97, 98, 99, 100]⟩
def fmd (a : Act3) : Int := (IntKind.i64.wrap (((mkN 1023 a.who : Nat) : Int).tdiv 8)).tmod 6
def fnm (a : Act3) : Nm := ⟨((mkN 1 a.way : Nat) : Int), abcd.extract (mkN 3 a.mode) (mkN 3 a.mode + 1), ⟨#[]⟩⟩
set_option maxHeartbeats 6400000 in
theorem law_LocksFree (q : Option Addr) (cap : Nat) (l : List Act3) (hc : l.length ≤ cap) (who : Int) : Fn Try.prog 14 [.slice q l.length cap, .int .i64 who].toArray [RowF Kd.act3 q l] (fun r post => r = .bool true ∧ post = []) := by
  refine Fn.enter (N := 144) Try.func14 rfl Try.ntmps14 (by kernel_rfl) rfl (fun ρ L => ?_)
  refine K.seq ?_
  refine K.region ?_
  refine KO.q rfl (q_assign rfl) ?_
  refine KO.done ?_
  refine K.seq ?_
  refine K.region ?_
  refine KO.loud rfl (OpL.callD rfl (h := l13_alive)) ?_
  rintro _ _ ⟨_, ⟨rfl, rfl⟩, rfl⟩
  refine KO.q rfl (q_assign rfl) ?_
  refine KO.done ?_
  refine K.seq <| K.seq ?_
  refine K.region ?_
  refine KO.q rfl (q_move rfl) ?_
  refine KO.q rfl (q_not rfl) ?_
  refine KO.q rfl (q_move rfl) ?_
  refine KO.q rfl (q_move rfl) ?_
  refine KO.q rfl (q_len Try.underlying66 rfl) ?_
  refine KO.q rfl (q_gt rfl rfl) ?_
  refine KO.q rfl (q_pickF rfl rfl) ?_
  refine KO.q rfl (q_move rfl) ?_
  refine KO.dsplit 22 rfl (fun g22 => ?_) (fun g22 => ?_)
  · refine KO.skip rfl ?_
    refine KO.skip rfl ?_
    refine KO.q rfl (q_pickT rfl rfl) ?_
    refine KO.q rfl (q_move rfl) ?_
    refine KO.skip rfl ?_
    refine KO.skip rfl ?_
    refine KO.q rfl (q_pickT rfl rfl) ?_
    refine KO.done ?_
    refine K.yes rfl ?_
    refine K.seq ?_
    refine K.region ?_
    refine KO.q rfl (q_move rfl) ?_
    refine KO.q rfl (q_assign rfl) ?_
    refine KO.done ?_
    refine K.ret (fn := Try.f14) Try.func14 (fun a w hk hs => res1 Try.results14 hk rfl) (fun w hs => ?_)
    exact ⟨_, [], rfl, ⟨rfl, rfl⟩, hs.fitD⟩
  · refine KO.q rfl (q_move rfl) ?_
    refine KO.q rfl (q_lt rfl rfl) ?_
    refine KO.q rfl (q_pickF rfl rfl) ?_
    refine KO.q rfl (q_move rfl) ?_
    refine KO.dsplit 26 rfl (fun g26 => ?_) (fun g26 => ?_)
    · refine KO.skip rfl ?_
      refine KO.skip rfl ?_
      refine KO.q rfl (q_pickT rfl rfl) ?_
      refine KO.done ?_
      refine K.yes rfl ?_
      refine K.seq ?_
      refine K.region ?_
      refine KO.q rfl (q_move rfl) ?_
      refine KO.q rfl (q_assign rfl) ?_
      refine KO.done ?_
      refine K.ret (fn := Try.f14) Try.func14 (fun a w hk hs => res1 Try.results14 hk rfl) (fun w hs => ?_)
      exact ⟨_, [], rfl, ⟨rfl, rfl⟩, hs.fitD⟩
    · refine KO.q rfl (q_move rfl) ?_
      refine KO.q rfl (q_gt rfl rfl) ?_
      refine KO.q rfl (q_pickF rfl rfl) ?_
      refine KO.done ?_
      refine K.dcond (s := 29) rfl (fun g29 => ?_) (fun g29 => ?_)
      · refine K.seq ?_
        refine K.region ?_
        refine KO.q rfl (q_move rfl) ?_
        refine KO.q rfl (q_assign rfl) ?_
        refine KO.done ?_
        refine K.ret (fn := Try.f14) Try.func14 (fun a w hk hs => res1 Try.results14 hk rfl) (fun w hs => ?_)
        exact ⟨_, [], rfl, ⟨rfl, rfl⟩, hs.fitD⟩
      · refine K.skip <| K.seq ?_
        refine K.region ?_
        refine KO.loud rfl (OpL.callG rfl (by repeat (first | exact Give.nil | (apply Give.perI; (repeat (first | exact List.Mem.head _ | apply List.Mem.tail))) | (apply Give.own; (repeat (first | exact Pick.here | apply Pick.there))))) tb_New) ?_
        rintro _ _ ⟨_, ⟨t, rfl, rfl⟩, rfl⟩
        refine KO.q rfl (q_assign rfl) ?_
        refine KO.done ?_
        refine K.seq <| K.seq ?_
        refine K.region ?_
        refine KO.q rfl (q_move rfl) ?_
        refine KO.q rfl (q_pnil Try.underlying23 rfl rfl) ?_
        refine KO.done ?_
        refine K.no rfl ?_
        refine K.skip <| K.seq <| K.seq ?_
        refine K.region ?_
        refine KO.q rfl (q_assign rfl) ?_
        refine KO.done ?_
        refine K.block ?_
        refine K.rounds2 (ι := { s : Nat × List Ent × Int // s.1 ≤ l.length ∧ TI s.2.1 s.2.2 s.1 ∧ ∀ x, inT s.2.1 x → 0 ≤ x ∧ x ≤ 7 }) (fun s => [(7, .int .i64 s.1.1), (0, .slice q l.length cap), (1, .int .i64 who), (6, .pointer (some ⟨t, 0, none⟩))]) (fun s => [TbX t s.1.2.2 s.1.2.1, RowF Kd.act3 q l] ++ L) (fun s => l.length - s.1.1) ⟨(0, [], 0), Nat.zero_le _, TI.nil, fun x ⟨e, he, _⟩ => by cases he⟩ (by repeat (first | exact Env.sub_nil _ | refine Env.sub_cons rfl ?_)) (fun w h => h.fitD) (fun s ih => ?_)
        obtain ⟨⟨i, T, n⟩, hi, ht, hin⟩ := s
        dsimp only at hi ht hin ⊢
        refine K.seq <| K.seq ?_
        refine K.region ?_
        refine KO.q rfl (q_move rfl) ?_
        refine KO.q rfl (q_move rfl) ?_
        refine KO.q rfl (q_len Try.underlying66 rfl) ?_
        refine KO.q rfl (q_lt rfl rfl) ?_
        refine KO.done ?_
        refine K.dcond (s := 37) rfl (fun g37 => ?_) (fun g37 => ?_)
        · obtain ⟨a, ha⟩ : ∃ a, l[i]? = some a := ⟨_, List.getElem?_eq_getElem (by omega)⟩
          have hm3 := mkN_le 3 (by decide) a.mode
          have hm7 := mkN_le 7 (by decide) a.who
          have htok := ht.tok (by omega)
          obtain ⟨ht2, hin2⟩ := ht.ask (mkN 7 a.who : Nat) (fnm a) (fmd a)
          obtain ⟨s', hs'⟩ : ∃ s', s' = askT T n (mkN 7 a.who : Nat) (fnm a) (fmd a) := ⟨_, rfl⟩
          rw [← hs'] at ht2 hin2
          refine K.skip <| K.seq <| K.block ?_
          refine K.drawS [RowF Kd.act3 q l] (fun _ h => h.subD) mixed ?_
          refine D.q 0 rfl (by kernel_rfl) (by kernel_rfl) (q_move rfl) (fun _ h => h.subD) ?_
          refine D.q 1 rfl (by kernel_rfl) (by kernel_rfl) (q_move rfl) (fun _ h => h.subD) ?_
          refine D.q 2 rfl (by kernel_rfl) (by kernel_rfl) (q_move rfl) (fun _ h => h.subD) ?_
          refine D.q 3 rfl (by kernel_rfl) (by kernel_rfl) (q_ix i se_66 rfl rfl rfl isF (by repeat (first | exact List.Mem.head _ | apply List.Mem.tail)) rfl (by omega)) (fun _ h => h.subD) ?_
          refine D.q 4 rfl (by kernel_rfl) (by kernel_rfl) (q_fieldE fo_68_1 rfl) (fun _ h => h.subD) ?_
          first | refine D.q 5 rfl (by kernel_rfl) (by kernel_rfl) (q_ldE ck_3 rfl isF (by repeat (first | exact List.Mem.head _ | apply List.Mem.tail)) (by first | assumption | exact List.getElem?_eq_getElem (by first | assumption | omega | (simp; omega))) rfl) (fun _ h => h.subD) ?_ | refine D.q 5 rfl (by kernel_rfl) (by kernel_rfl) (q_ldE ck_3 rfl isO (by repeat (first | exact List.Mem.head _ | apply List.Mem.tail)) (by first | assumption | exact List.getElem?_eq_getElem (by first | assumption | omega | (simp; omega))) rfl) (fun _ h => h.subD) ?_
          refine D.q 6 rfl (by kernel_rfl) (by kernel_rfl) (q_mask 7 (by decide) rfl rfl) (fun _ h => h.subD) ?_
          refine D.q 7 rfl (by kernel_rfl) (by kernel_rfl) (q_move rfl) (fun _ h => h.subD) ?_
          refine D.q 8 rfl (by kernel_rfl) (by kernel_rfl) (q_move rfl) (fun _ h => h.subD) ?_
          refine D.q 9 rfl (by kernel_rfl) (by kernel_rfl) (q_ix i se_66 rfl rfl rfl isF (by repeat (first | exact List.Mem.head _ | apply List.Mem.tail)) rfl (by omega)) (fun _ h => h.subD) ?_
          refine D.q 10 rfl (by kernel_rfl) (by kernel_rfl) (q_fieldE fo_68_0 rfl) (fun _ h => h.subD) ?_
          first | refine D.q 11 rfl (by kernel_rfl) (by kernel_rfl) (q_ldE ck_3 rfl isF (by repeat (first | exact List.Mem.head _ | apply List.Mem.tail)) (by first | assumption | exact List.getElem?_eq_getElem (by first | assumption | omega | (simp; omega))) rfl) (fun _ h => h.subD) ?_ | refine D.q 11 rfl (by kernel_rfl) (by kernel_rfl) (q_ldE ck_3 rfl isO (by repeat (first | exact List.Mem.head _ | apply List.Mem.tail)) (by first | assumption | exact List.getElem?_eq_getElem (by first | assumption | omega | (simp; omega))) rfl) (fun _ h => h.subD) ?_
          refine D.q 12 rfl (by kernel_rfl) (by kernel_rfl) (q_mask 1 (by decide) rfl rfl) (fun _ h => h.subD) ?_
          refine D.q 13 rfl (by kernel_rfl) (by kernel_rfl) (q_move rfl) (fun _ h => h.subD) ?_
          refine D.q 14 rfl (by kernel_rfl) (by kernel_rfl) (q_move rfl) (fun _ h => h.subD) ?_
          refine D.q 15 rfl (by kernel_rfl) (by kernel_rfl) (q_ix i se_66 rfl rfl rfl isF (by repeat (first | exact List.Mem.head _ | apply List.Mem.tail)) rfl (by omega)) (fun _ h => h.subD) ?_
          refine D.q 16 rfl (by kernel_rfl) (by kernel_rfl) (q_fieldE fo_68_2 rfl) (fun _ h => h.subD) ?_
          first | refine D.q 17 rfl (by kernel_rfl) (by kernel_rfl) (q_ldE ck_3 rfl isF (by repeat (first | exact List.Mem.head _ | apply List.Mem.tail)) (by first | assumption | exact List.getElem?_eq_getElem (by first | assumption | omega | (simp; omega))) rfl) (fun _ h => h.subD) ?_ | refine D.q 17 rfl (by kernel_rfl) (by kernel_rfl) (q_ldE ck_3 rfl isO (by repeat (first | exact List.Mem.head _ | apply List.Mem.tail)) (by first | assumption | exact List.getElem?_eq_getElem (by first | assumption | omega | (simp; omega))) rfl) (fun _ h => h.subD) ?_
          refine D.q 18 rfl (by kernel_rfl) (by kernel_rfl) (q_mask 3 (by decide) rfl rfl) (fun _ h => h.subD) ?_
          refine D.q 19 rfl (by kernel_rfl) (by kernel_rfl) (q_move rfl) (fun _ h => h.subD) ?_
          refine D.q 20 rfl (by kernel_rfl) (by kernel_rfl) (q_move rfl) (fun _ h => h.subD) ?_
          refine D.q 21 rfl (by kernel_rfl) (by kernel_rfl) (q_ix i se_66 rfl rfl rfl isF (by repeat (first | exact List.Mem.head _ | apply List.Mem.tail)) rfl (by omega)) (fun _ h => h.subD) ?_
          refine D.q 22 rfl (by kernel_rfl) (by kernel_rfl) (q_fieldE fo_68_2 rfl) (fun _ h => h.subD) ?_
          first | refine D.q 23 rfl (by kernel_rfl) (by kernel_rfl) (q_ldE ck_3 rfl isF (by repeat (first | exact List.Mem.head _ | apply List.Mem.tail)) (by first | assumption | exact List.getElem?_eq_getElem (by first | assumption | omega | (simp; omega))) rfl) (fun _ h => h.subD) ?_ | refine D.q 23 rfl (by kernel_rfl) (by kernel_rfl) (q_ldE ck_3 rfl isO (by repeat (first | exact List.Mem.head _ | apply List.Mem.tail)) (by first | assumption | exact List.getElem?_eq_getElem (by first | assumption | omega | (simp; omega))) rfl) (fun _ h => h.subD) ?_
          refine D.q 24 rfl (by kernel_rfl) (by kernel_rfl) (q_mask 3 (by decide) rfl rfl) (fun _ h => h.subD) ?_
          refine D.q 25 rfl (by kernel_rfl) (by kernel_rfl) (q_add rfl rfl (by first | omega | (simp; omega)) (by first | omega | (simp; omega))) (fun _ h => h.subD) ?_
          refine D.q 26 rfl (by kernel_rfl) (by kernel_rfl) (q_scut (s := abcd) (l := mkN 3 a.mode) (h := mkN 3 a.mode + 1) Try.underlying9 rfl rfl rfl (by omega) (by show mkN 3 a.mode + 1 ≤ 4; omega)) (fun _ h => h.subD) ?_
          refine D.q 27 rfl (by kernel_rfl) (by kernel_rfl) (q_as (q_build st_28 rfl (by repeat (first | exact Fill.nil | (apply Fill.cons; rfl; rfl; rfl) | exact SetN.nil | apply SetN.cons | exact SetAt.here | apply SetAt.there))) (show _ = Nm.cells (fnm a) from rfl)) (fun _ h => h.subD) ?_
          refine D.q 28 rfl (by kernel_rfl) (by kernel_rfl) (q_move rfl) (fun _ h => h.subD) ?_
          refine D.q 29 rfl (by kernel_rfl) (by kernel_rfl) (q_move rfl) (fun _ h => h.subD) ?_
          refine D.q 30 rfl (by kernel_rfl) (by kernel_rfl) (q_ix i se_66 rfl rfl rfl isF (by repeat (first | exact List.Mem.head _ | apply List.Mem.tail)) rfl (by omega)) (fun _ h => h.subD) ?_
          refine D.q 31 rfl (by kernel_rfl) (by kernel_rfl) (q_fieldE fo_68_1 rfl) (fun _ h => h.subD) ?_
          first | refine D.q 32 rfl (by kernel_rfl) (by kernel_rfl) (q_ldE ck_3 rfl isF (by repeat (first | exact List.Mem.head _ | apply List.Mem.tail)) (by first | assumption | exact List.getElem?_eq_getElem (by first | assumption | omega | (simp; omega))) rfl) (fun _ h => h.subD) ?_ | refine D.q 32 rfl (by kernel_rfl) (by kernel_rfl) (q_ldE ck_3 rfl isO (by repeat (first | exact List.Mem.head _ | apply List.Mem.tail)) (by first | assumption | exact List.getElem?_eq_getElem (by first | assumption | omega | (simp; omega))) rfl) (fun _ h => h.subD) ?_
          refine D.q 33 rfl (by kernel_rfl) (by kernel_rfl) (q_mask 1023 (by decide) rfl rfl) (fun _ h => h.subD) ?_
          refine D.q 34 rfl (by kernel_rfl) (by kernel_rfl) (q_div rfl rfl (by decide)) (fun _ h => h.subD) ?_
          refine D.q 35 rfl (by kernel_rfl) (by kernel_rfl) (q_rem rfl rfl (by decide)) (fun _ h => h.subD) ?_
          refine D.all (rs := [36]) (by kernel_rfl) rfl (DAll.cons rfl (by kernel_rfl) (OpL.callD rfl (h := tb_AskX t n T (mkN 7 a.who : Nat) (fnm a) (fmd a) htok)) (.inr (by rintro _ _ ⟨_, ⟨rfl, rfl⟩, rfl⟩ w h; exact h.subD)) rfl ?_ DAll.nil)
          rintro _ _ ⟨_, ⟨rfl, rfl⟩, rfl⟩
          refine D.done (by kernel_rfl) ?_
          refine K.inBlock ?_
          rw [← hs']
          refine K.region ?_
          refine KO.q rfl (q_move rfl) ?_
          refine KO.q rfl (q_add rfl rfl (by first | omega | (simp; omega)) (by first | omega | (simp; omega))) ?_
          refine KO.q rfl (q_assign rfl) ?_
          refine KO.done ?_
          exact K.weak (by repeat (first | exact Env.sub_nil _ | refine Env.sub_cons rfl ?_)) (fun w h => h.fitD) (ih ⟨(i + 1, s'.2.1, s'.2.2), by show i + 1 ≤ _; omega, ht2, fun x hx => (hin2 x hx).elim (hin x) (fun e => by rw [e]; omega)⟩ (by show l.length - (i + 1) < l.length - i; omega))
        · obtain rfl : i = l.length := by omega
          clear ih
          have htok := ht.tok (by omega)
          have houts := ht.outs (by omega) who
          obtain ⟨ht2, hin2⟩ := ht.free who
          obtain ⟨s', hs'⟩ : ∃ s', s' = freeT T n who := ⟨_, rfl⟩
          rw [← hs'] at ht2 hin2
          have htok2 := ht2.tok (by omega)
          have hprs2 := ht2.prs (by omega)
          have hno : ¬ inT s'.2.1 who := fun h => (hin2 who h).2 rfl
          refine K.exit rfl ?_
          refine K.seq ?_
          refine K.region ?_
          refine KO.q rfl (q_move rfl) ?_
          refine KO.q rfl (q_move rfl) ?_
          refine KO.loud rfl (OpL.callD rfl (h := tb_FreeX t n T who htok houts)) ?_
          rintro _ _ ⟨_, ⟨pf, cf, rfl, rfl⟩, rfl⟩
          rw [← hs']
          refine KO.done ?_
          refine K.seq ?_
          refine K.region ?_
          refine KO.q rfl (q_move rfl) ?_
          refine KO.q rfl (q_move rfl) ?_
          refine KO.loud rfl (OpL.callD rfl (h := tb_WaitingX t s'.2.2 s'.2.1 who htok2)) ?_
          rintro _ _ ⟨_, ⟨rfl, rfl⟩, rfl⟩
          rw [waitT_not hno]
          refine KO.q rfl (q_move rfl) ?_
          refine KO.q rfl (q_extract rfl rfl) ?_
          refine KO.q rfl (q_extract rfl rfl) ?_
          refine KO.loud rfl (l_alloc zo_28) ?_
          rintro _ _ ⟨b8, rfl, rfl⟩
          refine KO.loudN rfl (l_storeAll ck_28 rfl rfl ⟨rfl, rfl⟩ (nm_one _) (by repeat (first | exact Pick.here | apply Pick.there))) ?_
          rintro _ _ ⟨rfl, rfl⟩
          refine KO.q rfl (q_assign rfl) ?_
          refine KO.done ?_
          refine K.seq ?_
          refine K.region ?_
          refine KO.q rfl (q_move rfl) ?_
          refine KO.loud rfl (OpL.callD rfl (h := tb_EdgesX t s'.2.2 s'.2.1 htok2 hprs2)) ?_
          rintro _ _ ⟨_, ⟨pe, ce, rfl, rfl⟩, rfl⟩
          refine KO.q rfl (q_assign rfl) ?_
          refine KO.done ?_
          refine K.seq <| K.seq ?_
          refine K.region ?_
          refine KO.q rfl (q_assign rfl) ?_
          refine KO.done ?_
          refine K.block ?_
          obtain ⟨G, hG⟩ : ∃ G, G = edgesT s'.2.1 := ⟨_, rfl⟩
          have hgl : G.length ≤ 1000000000 := by
            rw [hG]
            unfold edgesT
            refine Nat.le_trans (compactL_len _) ?_
            rw [List.length_mergeSort]; exact hprs2
          rw [← hG]
          refine K.rounds2 (ι := { s : Nat // s ≤ G.length }) (fun s => [(11, .int .i64 s.1), (10, .slice pe G.length ce), (1, .int .i64 who), (6, .pointer (some ⟨t, 0, none⟩)), (9, .bool false)]) (fun s => [TbX t s'.2.2 s'.2.1, RowO Kd.p2 39 pe ce G] ++ L) (fun s => G.length - s.1) ⟨0, Nat.zero_le _⟩ (by repeat (first | exact Env.sub_nil _ | refine Env.sub_cons rfl ?_)) (fun w h => h.fitD) (fun s ih => ?_)
          obtain ⟨i, hi⟩ := s
          dsimp only at hi ⊢
          refine K.seq <| K.seq ?_
          refine K.region ?_
          refine KO.q rfl (q_move rfl) ?_
          refine KO.q rfl (q_move rfl) ?_
          refine KO.q rfl (q_len Try.underlying32 rfl) ?_
          refine KO.q rfl (q_lt rfl rfl) ?_
          refine KO.done ?_
          refine K.dcond (s := 91) rfl (fun g91 => ?_) (fun g91 => ?_)
          · obtain ⟨e, he⟩ : ∃ e, G[i]? = some e := ⟨_, List.getElem?_eq_getElem (by omega)⟩
            have hie := edgesT_in (T := s'.2.1) (p := e) (by rw [← hG]; exact List.mem_of_getElem? he)
            refine K.skip <| K.seq <| K.block <| K.seq ?_
            refine K.region ?_
            refine KO.q rfl (q_move rfl) ?_
            refine KO.q rfl (q_move rfl) ?_
            refine KO.q rfl (q_ix (xs := G) i se_32 rfl rfl rfl isO (by repeat (first | exact List.Mem.head _ | apply List.Mem.tail)) rfl (by omega)) ?_
            refine KO.q rfl (q_ixAE 0 ar_p2 rfl rfl (by decide)) ?_
            refine KO.q rfl (q_ldE ck_3 rfl isO (by repeat (first | exact List.Mem.head _ | apply List.Mem.tail)) he rfl) ?_
            refine KO.q rfl (q_move rfl) ?_
            refine KO.q rfl (q_eqF rfl rfl (fun h => hno (h ▸ hie.1))) ?_
            refine KO.q rfl (q_move rfl) ?_
            refine KO.q rfl (q_move rfl) ?_
            refine KO.q rfl (q_move rfl) ?_
            refine KO.q rfl (q_ix (xs := G) i se_32 rfl rfl rfl isO (by repeat (first | exact List.Mem.head _ | apply List.Mem.tail)) rfl (by omega)) ?_
            refine KO.q rfl (q_ixAE 1 ar_p2 rfl rfl (by decide)) ?_
            refine KO.q rfl (q_ldE ck_3 rfl isO (by repeat (first | exact List.Mem.head _ | apply List.Mem.tail)) he rfl) ?_
            refine KO.q rfl (q_move rfl) ?_
            refine KO.q rfl (q_eqF rfl rfl (fun h => hno (h ▸ hie.2))) ?_
            refine KO.q rfl (q_pickF rfl rfl) ?_
            refine KO.done ?_
            refine K.no rfl ?_
            refine K.skip <| K.inBlock ?_
            refine K.region ?_
            refine KO.q rfl (q_move rfl) ?_
            refine KO.q rfl (q_add rfl rfl (by first | omega | (simp; omega)) (by first | omega | (simp; omega))) ?_
            refine KO.q rfl (q_assign rfl) ?_
            refine KO.done ?_
            exact K.weak (by repeat (first | exact Env.sub_nil _ | refine Env.sub_cons rfl ?_)) (fun w h => h.fitD) (ih ⟨i + 1, by omega⟩ (by show G.length - (i + 1) < G.length - i; omega))
          · clear ih
            refine K.exit rfl ?_
            refine K.seq <| K.seq ?_
            refine K.region ?_
            refine KO.q rfl (q_assign rfl) ?_
            refine KO.done ?_
            refine K.block ?_
            refine K.rounds2 (ι := { s : Nat // s ≤ 4 }) (fun s => [(12, .int .i64 s.1), (1, .int .i64 who), (6, .pointer (some ⟨t, 0, none⟩)), (9, .bool false)]) (fun s => [TbX t s'.2.2 s'.2.1] ++ L) (fun s => 4 - s.1) ⟨0, Nat.zero_le _⟩ (by repeat (first | exact Env.sub_nil _ | refine Env.sub_cons rfl ?_)) (fun w h => h.fitD) (fun s ih => ?_)
            obtain ⟨i, hi⟩ := s
            dsimp only at hi ⊢
            refine K.seq <| K.seq ?_
            refine K.region ?_
            refine KO.q rfl (q_move rfl) ?_
            refine KO.q rfl (q_lt rfl rfl) ?_
            refine KO.done ?_
            refine K.dcond (s := 111) rfl (fun g111 => ?_) (fun g111 => ?_)
            · refine K.skip <| K.seq <| K.block <| K.seq ?_
              refine K.region ?_
              refine KO.q rfl (q_move rfl) ?_
              refine KO.q rfl (q_move rfl) ?_
              refine KO.q rfl (q_move rfl) ?_
              refine KO.q rfl (q_move rfl) ?_
              refine KO.q rfl (q_add rfl rfl (by first | omega | (simp; omega)) (by first | omega | (simp; omega))) ?_
              refine KO.q rfl (q_scut (s := abcd) (l := i) (h := i + 1) Try.underlying9 rfl rfl rfl (by omega) (by show i + 1 ≤ 4; omega)) ?_
              refine KO.q rfl (q_as (q_build st_28 rfl (by repeat (first | exact Fill.nil | (apply Fill.cons; rfl; rfl; rfl) | exact SetN.nil | apply SetN.cons | exact SetAt.here | apply SetAt.there))) (show _ = Nm.cells ⟨1, abcd.extract i (i + 1), ⟨#[]⟩⟩ from rfl)) ?_
              refine KO.loud rfl (OpL.callD rfl (h := tb_ModeX t s'.2.2 s'.2.1 who ⟨1, abcd.extract i (i + 1), ⟨#[]⟩⟩ htok2)) ?_
              rintro _ _ ⟨_, ⟨rfl, rfl⟩, rfl⟩
              rw [modeT_not hno]
              refine KO.q rfl (q_neF rfl rfl (rfl)) ?_
              refine KO.done ?_
              refine K.no rfl ?_
              refine K.skip <| K.inBlock ?_
              refine K.region ?_
              refine KO.q rfl (q_move rfl) ?_
              refine KO.q rfl (q_add rfl rfl (by first | omega | (simp; omega)) (by first | omega | (simp; omega))) ?_
              refine KO.q rfl (q_assign rfl) ?_
              refine KO.done ?_
              exact K.weak (by repeat (first | exact Env.sub_nil _ | refine Env.sub_cons rfl ?_)) (fun w h => h.fitD) (ih ⟨i + 1, by omega⟩ (by show 4 - (i + 1) < 4 - i; omega))
            · clear ih
              refine K.exit rfl ?_
              refine K.seq <| K.seq ?_
              refine K.region ?_
              refine KO.q rfl (q_assign rfl) ?_
              refine KO.done ?_
              refine K.block ?_
              refine K.rounds2 (ι := { s : Nat × List Ent × Int // s.1 ≤ 8 ∧ TI s.2.1 s.2.2 l.length ∧ ∀ x, inT s.2.1 x → s.1 ≤ x ∧ x ≤ 7 }) (fun s => [(13, .int .i64 s.1.1), (1, .int .i64 who), (6, .pointer (some ⟨t, 0, none⟩)), (9, .bool false)]) (fun s => [TbX t s.1.2.2 s.1.2.1] ++ L) (fun s => 8 - s.1.1) ⟨(0, s'.2.1, s'.2.2), Nat.zero_le _, ht2, fun x hx => hin x (hin2 x hx).1⟩ (by repeat (first | exact Env.sub_nil _ | refine Env.sub_cons rfl ?_)) (fun w h => h.fitD) (fun s ih => ?_)
              obtain ⟨⟨i, T, n⟩, hi, ht, hin⟩ := s
              dsimp only at hi ht hin ⊢
              have htok := ht.tok (by omega)
              have houts := ht.outs (by omega) i
              obtain ⟨ht2, hin2⟩ := ht.free i
              obtain ⟨s', hs'⟩ : ∃ s', s' = freeT T n i := ⟨_, rfl⟩
              rw [← hs'] at ht2 hin2
              refine K.seq <| K.seq ?_
              refine K.region ?_
              refine KO.q rfl (q_move rfl) ?_
              refine KO.q rfl (q_lt rfl rfl) ?_
              refine KO.done ?_
              refine K.dcond (s := 124) rfl (fun g124 => ?_) (fun g124 => ?_)
              · refine K.skip <| K.seq <| K.block ?_
                refine K.region ?_
                refine KO.q rfl (q_move rfl) ?_
                refine KO.q rfl (q_move rfl) ?_
                refine KO.loud rfl (OpL.callD rfl (h := tb_FreeX t n T i htok houts)) ?_
                rintro _ _ ⟨_, ⟨pf, cf, rfl, rfl⟩, rfl⟩
                rw [← hs']
                refine KO.done ?_
                refine K.inBlock ?_
                refine K.region ?_
                refine KO.q rfl (q_move rfl) ?_
                refine KO.q rfl (q_add rfl rfl (by first | omega | (simp; omega)) (by first | omega | (simp; omega))) ?_
                refine KO.q rfl (q_assign rfl) ?_
                refine KO.done ?_
                exact K.weak (by repeat (first | exact Env.sub_nil _ | refine Env.sub_cons rfl ?_)) (fun w h => h.fitD) (ih ⟨(i + 1, s'.2.1, s'.2.2), by show i + 1 ≤ _; omega, ht2, fun x hx => by have h1 := hin2 x hx; have h2 := hin x h1.1; have h3 := h1.2; show ((i + 1 : Nat) : Int) ≤ x ∧ x ≤ 7; omega⟩ (by show 8 - (i + 1) < 8 - i; omega))
              · clear ih
                obtain ⟨hT, hn⟩ := ht.empty (fun x hx => by have := hin x hx; omega)
                subst hT hn
                refine K.exit rfl ?_
                refine K.seq ?_
                refine K.region ?_
                refine KO.q rfl (q_move rfl) ?_
                refine KO.q rfl (q_not rfl) ?_
                refine KO.q rfl (q_move rfl) ?_
                refine KO.q rfl (q_move rfl) ?_
                refine KO.q rfl (q_move rfl) ?_
                refine KO.q rfl (q_as_nm (q_build st_28 rfl (by repeat (first | exact Fill.nil | (apply Fill.cons; rfl; rfl; rfl) | exact SetN.nil | apply SetN.cons | exact SetAt.here | apply SetAt.there))) (by rfl)) ?_
                refine KO.loud rfl (OpL.callD rfl (h := tb_ModeX t 0 [] who Nm.nil htok)) ?_
                rintro _ _ ⟨_, ⟨rfl, rfl⟩, rfl⟩
                rw [modeT_not (fun ⟨e, he, _⟩ => by cases he)]
                refine KO.q rfl (q_eqT rfl rfl (rfl)) ?_
                refine KO.q rfl (q_pickT rfl rfl) ?_
                refine KO.q rfl (q_move rfl) ?_
                refine KO.q rfl (q_move rfl) ?_
                refine KO.loud rfl (OpL.callD rfl (h := tb_CountX _ _ _)) ?_
                rintro _ _ ⟨_, ⟨rfl, rfl⟩, rfl⟩
                refine KO.q rfl (q_eqT rfl rfl (rfl)) ?_
                refine KO.q rfl (q_pickT rfl rfl) ?_
                refine KO.q rfl (q_assign rfl) ?_
                refine KO.done ?_
                refine K.ret (fn := Try.f14) Try.func14 (fun a w hk hs => res1 Try.results14 hk rfl) (fun w hs => ?_)
                exact ⟨_, [], rfl, ⟨rfl, rfl⟩, hs.fitD⟩
end Go.Proofs.Ytfpkeanimkgpaaa.L
