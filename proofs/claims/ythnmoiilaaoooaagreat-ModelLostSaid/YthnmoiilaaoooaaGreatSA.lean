/- States and objects, with where their rows lie. -/
import Derived.Test.YthnmoiilaaoooaaGreatC1
import Derived.Test.YthnmoiilaaoooaaGreatLE
namespace Go.Proofs.YthnmoiilaaoooaaGreat.L
open Go Go.Proofs
set_option maxRecDepth 100000
set_option linter.unusedSimpArgs false
set_option linter.unusedVariables false
open Go.RowKit Go.ChangeShapes

structure Ob where
  name : ByteArray
  kind : Int
  limit : Int
  rows : List Rw
  msgs : List Msg
  dead : List Msg
/-- Where an object's rows lie. -/
structure ObQ where
  q1 : Option Addr
  c1 : Nat
  q2 : Option Addr
  c2 : Nat
  q3 : Option Addr
  c3 : Nat
structure Oz where
  x : Ob
  z : ObQ
def Oz.cells (o : Oz) : List Value := [.string o.x.name, .int .i64 o.x.kind, .int .i64 o.x.limit, .slice o.z.q1 o.x.rows.length o.z.c1, .slice o.z.q2 o.x.msgs.length o.z.c2, .slice o.z.q3 o.x.dead.length o.z.c3]
theorem oz_sz (o : Oz) : o.cells.length = 6 := rfl
theorem oz_one (o : Oz) : ∀ v ∈ o.cells, v.oneCell' = true := fun v h => by simp [Oz.cells] at h; rcases h with rfl | rfl | rfl | rfl | rfl | rfl <;> rfl
def Kd.oz : Kd Oz := Kd.flat 6 Oz.cells oz_sz oz_one
--%rec api.Object Oz
--%kd api.Object Kd.oz
theorem q_as_oz {X : Fx} {o : Oper} {E : Env} {L : List HP} {cs : List Value} {name_ : ByteArray} {kind_ limit_ : Int} {q1_ q2_ q3_ : Option Addr} {c1_ c2_ c3_ : Nat} {rows_ : List Rw} {msgs_ dead_ : List Msg} (h : OpQ X o E L (.agg cs.toArray))
    (e : cs = [.string name_, .int .i64 kind_, .int .i64 limit_, .slice q1_ rows_.length c1_, .slice q2_ msgs_.length c2_, .slice q3_ dead_.length c3_]) : OpQ X o E L (.agg (Oz.cells ⟨⟨name_, kind_, limit_, rows_, msgs_, dead_⟩, ⟨q1_, c1_, q2_, c2_, q3_, c3_⟩⟩).toArray) := q_as h e
theorem ob_ext {a b : Ob} : a = b ↔ a.name = b.name ∧ a.kind = b.kind ∧ a.limit = b.limit ∧ a.rows = b.rows ∧ a.msgs = b.msgs ∧ a.dead = b.dead := by cases a; cases b; simp
instance : DecidableEq Ob := fun _ _ => decidable_of_iff _ ob_ext.symm
/-- What holds of the sizes of all that can be at hand. -/
def Rw.sm (r : Rw) : Prop := r.key.size ≤ 140737488351232 ∧ r.value.size ≤ 140737488351232
def Msg.sm (m : Msg) : Prop := (-9223372036854775808 ≤ m.id ∧ m.id ≤ 9223372036854775807) ∧ (-9223372036854775808 ≤ m.pri ∧ m.pri ≤ 9223372036854775807) ∧ (-9223372036854775808 ≤ m.retry ∧ m.retry ≤ 9223372036854775807) ∧ m.corr.size ≤ 140737488351232 ∧ m.body.size ≤ 140737488351232
def Ob.sm (x : Ob) : Prop := x.name.size ≤ 140737488351232 ∧ (-9223372036854775808 ≤ x.kind ∧ x.kind ≤ 9223372036854775807) ∧ (-9223372036854775808 ≤ x.limit ∧ x.limit ≤ 9223372036854775807) ∧ (∀ r ∈ x.rows, r.sm) ∧ (∀ m ∈ x.msgs, m.sm) ∧ (∀ m ∈ x.dead, m.sm) ∧
  x.rows.length ≤ 140737488351232 ∧ x.msgs.length ≤ 140737488351232 ∧ x.dead.length ≤ 140737488351232
def Oz.ok (o : Oz) : Prop := o.x.sm ∧ o.x.rows.length ≤ o.z.c1 ∧ o.x.msgs.length ≤ o.z.c2 ∧ o.x.dead.length ≤ o.z.c3
/-- The rows of an object. -/
abbrev ObL (o : Oz) : List HP := [RowF Kd.rw o.z.q1 o.x.rows, RowF Kd.msg o.z.q2 o.x.msgs, RowF Kd.msg o.z.q3 o.x.dead]
def Nest (o : Oz) (g : Hp) : Prop := (RowF Kd.rw o.z.q1 o.x.rows).holds g (fun _ => none) ∧ (RowF Kd.msg o.z.q2 o.x.msgs).holds g (fun _ => none) ∧ (RowF Kd.msg o.z.q3 o.x.dead).holds g (fun _ => none)
def NestF (l : List Oz) : HP := HP.per (fun g => ∀ o ∈ l, Nest o g) (fun hg h o ho => ⟨(RowF _ _ _).mono hg (h o ho).1, (RowF _ _ _).mono hg (h o ho).2.1, (RowF _ _ _).mono hg (h o ho).2.2⟩)
instance {l : List Oz} : Pers (NestF l) := ⟨rfl⟩
theorem nestF_at {l : List Oz} {ρ : World} {L : List HP} {w : World} {o : Oz} (m : NestF l ∈ L) (ho : o ∈ l) (h : St ρ L w) : St ρ (ObL o ++ L) w := by
  have h3 := St.derive (B := RowF Kd.msg o.z.q3 o.x.dead) m rfl (fun _ _ hn => (RowF _ _ _).free rfl ((hn : ∀ o ∈ l, _) o ho).2.2) h
  have h2 := St.derive (B := RowF Kd.msg o.z.q2 o.x.msgs) (List.Mem.tail _ m) rfl (fun _ _ hn => (RowF _ _ _).free rfl ((hn : ∀ o ∈ l, _) o ho).2.1) h3
  exact St.derive (B := RowF Kd.rw o.z.q1 o.x.rows) (List.Mem.tail _ (List.Mem.tail _ m)) rfl (fun _ _ hn => (RowF _ _ _).free rfl ((hn : ∀ o ∈ l, _) o ho).1) h2
theorem nestF_nil {ρ : World} {L : List HP} {w : World} (h : St ρ L w) : St ρ (NestF [] :: L) w := by
  obtain ⟨g, q, a, b, c, d⟩ := h.body
  exact ⟨h.os, h.tape, h.output, g, q, a, b, c, sepAll_cons_per (A := NestF []) rfl (h1 := fun _ => none) (fun s hs => by cases hs) d⟩
theorem nestF_snoc {l : List Oz} {ρ : World} {L : List HP} {w : World} (o : Oz) (m : NestF l ∈ L) (m1 : RowF Kd.rw o.z.q1 o.x.rows ∈ L) (m2 : RowF Kd.msg o.z.q2 o.x.msgs ∈ L) (m3 : RowF Kd.msg o.z.q3 o.x.dead ∈ L) (h : St ρ L w) : St ρ (NestF (l ++ [o]) :: L) w := by
  obtain ⟨g, q, a, b, c, d⟩ := h.body
  obtain ⟨_, _, hn⟩ := sepAll_mem m d
  obtain ⟨_, _, h1⟩ := sepAll_mem m1 d
  obtain ⟨_, _, h2⟩ := sepAll_mem m2 d
  obtain ⟨_, _, h3⟩ := sepAll_mem m3 d
  refine ⟨h.os, h.tape, h.output, g, q, a, b, c, sepAll_cons_per (A := NestF (l ++ [o])) rfl (h1 := fun _ => none) (fun p hp => ?_) d⟩
  rcases List.mem_append.1 hp with hp | hp
  · exact (hn : ∀ o ∈ l, _) p hp
  · rw [List.mem_singleton.1 hp]
    exact ⟨(RowF _ _ _).free rfl h1, (RowF _ _ _).free rfl h2, (RowF _ _ _).free rfl h3⟩
/-- A state: the next number, its objects, and where they lie. -/
structure Sz where
  next : Int
  q : Option Addr
  c : Nat
  l : List Oz
def Sz.cells (s : Sz) : List Value := [.int .i64 s.next, .slice s.q s.l.length s.c]
theorem sz_sz (s : Sz) : s.cells.length = 2 := rfl
theorem sz_one (s : Sz) : ∀ v ∈ s.cells, v.oneCell' = true := fun v h => by simp [Sz.cells] at h; rcases h with rfl | rfl <;> rfl
--%rec api.State Sz
theorem q_as_sz {X : Fx} {o : Oper} {E : Env} {L : List HP} {cs : List Value} {next_ : Int} {q_ : Option Addr} {c_ : Nat} {l_ : List Oz} (h : OpQ X o E L (.agg cs.toArray)) (e : cs = [.int .i64 next_, .slice q_ l_.length c_]) : OpQ X o E L (.agg (Sz.cells ⟨next_, q_, c_, l_⟩).toArray) := q_as h e
abbrev StL (s : Sz) : List HP := [RowF Kd.oz s.q s.l, NestF s.l]
def Sz.ok (s : Sz) : Prop := (-9223372036854775808 ≤ s.next ∧ s.next ≤ 9223372036854775807) ∧ s.l.length ≤ 140737488351232 ∧ s.l.length ≤ s.c ∧ ∀ o ∈ s.l, o.ok
/-- What a state says, wherever it lies. -/
structure Stt where
  next : Int
  objs : List Ob
theorem stt_ext {a b : Stt} : a = b ↔ a.next = b.next ∧ a.objs = b.objs := by cases a; cases b; simp
instance : DecidableEq Stt := fun _ _ => decidable_of_iff _ stt_ext.symm
def Sz.st (s : Sz) : Stt := ⟨s.next, s.l.map (·.x)⟩
/-! ### What may be -/
def risesR (l : List Rw) : Bool := adj (fun a b => decide (cmpB a.key b.key < 0)) l
def risesM (l : List Msg) : Bool := adj (fun a b => decide (cmpM a b < 0)) l && decide (l.map (·.id)).Nodup
def Ob.right (o : Ob) : Bool := effName o.name && effKind o.kind o.limit && (if o.kind = 1 then decide ((o.msgs.length : Int) = 0) && decide ((o.dead.length : Int) = 0) && risesR o.rows && o.rows.all Rw.right
  else decide ((o.rows.length : Int) = 0) && risesM o.msgs && o.msgs.all Msg.right && o.dead.all (fun m => !m.claimed && m.right))
def Ob.ids (o : Ob) : List Int := (o.msgs ++ o.dead).map (·.id)
def Stt.ids (s : Stt) : List Int := s.objs.flatMap Ob.ids
def Stt.once (s : Stt) : Bool := decide s.ids.Nodup && s.ids.all (fun n => decide (n < s.next))
def Stt.right (s : Stt) : Bool := decide (1 ≤ s.next) && decide (s.next ≤ 1099511627776) && decide ((s.objs.length : Int) ≤ 20) && s.objs.all Ob.right && adj (fun a b => decide (cmpB a.name b.name < 0)) s.objs && s.once
end Go.Proofs.YthnmoiilaaoooaaGreat.L
