import Derived.Test.YtfoaeigoajooeaaWMore
import Derived.Laws.MakeOwn
import Derived.Lib.SliceRun
import Derived.Laws.Slices
/- A call by a slot that holds a function value: two arms of the walk. -/
namespace Go.Proofs.YtfoaeigoajooeaaW.PrintMore
open Go.RowKit Go.Proofs.YtfoaeigoajooeaaW.PrintWords Go.Proofs.YtfoaeigoajooeaaW.PrintLast
section
variable {P : Program} {ops : Array Oper} {Q : Exit → Act → World → Prop}
theorem gate_tmp {rest : List Oper} {o : Oper} {a : Act} {W : World} {n : Nat} {as_ : Array Operand} {ts : Array TypeId} (_ho : o.op = .call { callee := .value (.tmp n), args := as_, argTypes := ts }) (h : wpList P ops Q (o :: rest) a W) : wpList P ops Q (o :: rest) a W := h
theorem goesT_ {rest : List Oper} {oi : Oper} {a : Act} {w : World} (N : Option Tmp) (hd : oi.dst = N) (hg : oi.guard = none) {x : Operand} {f : FuncId} {lb : Array Value} {fn : Func} {as_ : Array Operand} {ts : Array TypeId} (hf : P.funcs[f]? = some fn) (hname : (fn.name == "runtime.NumGoroutine") = false) (hb : fn.body.isSome = true) (args : Array Value)
    (hop : oi.op = .call { callee := .value x, args := as_, argTypes := ts }) (hx : a.eval x = .func (.func f) #[] lb) (hargs : as_.map a.eval ++ lb = args)
    (h : Calls P f args w fun e w' => ∃ v, e = .returned v ∧ wpList P ops Q rest (a.put N v) w') : wpList P ops Q (oi :: rest) a w := by
  refine wpList_plain hg fun K hK => ?_
  have he := enters_ hf hname hb args w
  have hrun : (execOp a.eval oi).run P w = .ok (.enter f args) w := by
    unfold execOp
    simp [hop, resolve, Deferred.ofValue, invoke, hx, hargs, he]
  unfold Oper.wp
  rw [hrun, Oper.upon_enter]
  refine h.mono fun e w'' hh => ?_
  obtain ⟨v, rfl, hk⟩ := hh
  subst hd
  exact hK _ _ hk
end
end Go.Proofs.YtfoaeigoajooeaaW.PrintMore
namespace Go.Proofs.YtfoaeigoajooeaaW.PrintWords
open Go.RowKit
section
variable {P : Program} {ops : Array Oper} {Q : Exit → Act → World → Prop} {o : Oper} {rest : List Oper} {a : Act}
/-- 'make([]T, 0, n)': an empty row with room. -/
theorem Kd.R_make0 {α : Type} (d : Kd α) {w0 W : World} (base e : Nat) (hgd : o.guard = none) {N : Tmp} (_hd : o.dst = some N) (t : TypeId) (x y : Operand) (ho : o.op = .makeSlice t x y) (n : Int) (hx : a.eval x = .int .i64 0) (hy : a.eval y = .int .i64 n)
    (ht : P.underlying t = some (.slice e)) (z : Value) (bytes : Nat) (hinfo : (P.info? e).map (fun i => (i.zero, i.size, i.bytes)) = some (some z, d.sz, bytes)) (_hz : z.cells.size = d.sz) (_hs0 : 0 < d.sz) (hb0 : 0 < bytes)
    (z0 : α) {ok okp : Nat → Prop} (_hzero : d.M W base okp z0 z.cells.toList) (_hok : ∀ k, okp k → ok k) (hfresh : ok W.heap.size) (h0 : 0 ≤ n) (hl : n.toNat * bytes ≤ 281474976710656) (HB : Below base w0 W) (hbase : base ≤ W.heap.size)
    (h : ∀ v1 w1, d.R e w1 base ok v1 [] → Below base w0 w1 → W.grownBy w1 none → (∃ b, v1.ownBlock = some b ∧ W.heap.size ≤ b) → wpList P ops Q rest (a.put o.dst v1) w1) : wpList P ops Q (o :: rest) a W := by
  obtain ⟨m, rfl⟩ := Int.eq_ofNat_of_zero_le h0
  simp only [Int.toNat_natCast] at hl
  obtain ⟨i0, hi, hzz⟩ := Option.map_eq_some_iff.1 hinfo
  simp only [Prod.mk.injEq] at hzz
  obtain ⟨hz0, hz1, hz2⟩ := hzz
  have hm : m ≤ 281474976710656 := Nat.le_trans (Nat.le_mul_of_pos_right _ hb0) hl
  obtain ⟨w', hr, hown, hg⟩ := run_make_own (P := P) (w := W) base t e i0 z d.sz ht hi hz0 hz1 .i64 .i64 m (by rw [hz2, Nat.mul_comm]; exact hl) (by unfold maxLen; omega) hbase
  have hrun : (execOp a.eval o).run P W = .ok (.value (.slice (some ⟨W.heap.size, 0, none⟩) 0 m)) w' := by
    simp [execOp, ho, hx, hy, hr]
  refine Kd.event_run hgd hrun (h _ _ ⟨fun k hk => ?_, [], hown, Reps.none _ _⟩ (HB.grown hg hbase (fun k hk => by simp at hk)) hg ⟨W.heap.size, by simp [Value.ownBlock], Nat.le_refl _⟩)
  have : W.heap.size = k := by simpa [Value.ownBlock] using hk
  subst this
  exact hfresh
end
end Go.Proofs.YtfoaeigoajooeaaW.PrintWords
namespace Go.Proofs.YtfoaeigoajooeaaW.PrintWords
open Go.RowKit
/-- A made row that is nil where it is empty: is it nil? -/
theorem nil_is {α : Type} {d : Kd α} {e base n : Nat} {ok : Nat → Prop} {w : World} {A : Option Addr} {c : Nat} {xs : List α} (h : d.R e w base ok (.slice A n c) xs) (hn : xs = [] → Value.slice A n c = .slice none 0 0) : A.isNone = ((xs.length : Int) == 0) := by
  cases xs with
  | nil =>
    have h1 := hn rfl
    injection h1 with h1
    subst h1
    rfl
  | cons x xs =>
    obtain ⟨A', c', he, _, hC⟩ := Kd.R_reads h
    injection he with h1 h2 h3
    subst h1 h2 h3
    obtain ⟨ad, _, rfl, _⟩ := Kd.C_get hC x 0 (by omega) (by simp)
    simp
    omega
theorem run_nil_is {α : Type} {P : Program} {t E : TypeId} (ht : P.underlying t = some (.slice E)) {d : Kd α} {e base : Nat} {ok : Nat → Prop} {w : World} {v : Value} {xs : List α} (h : d.R e w base ok v xs) (hn : xs = [] → v = .slice none 0 0) (W : World) :
    Sem.run P (binOp .eql t v (.slice none 0 0)) W = .ok (.bool ((xs.length : Int) == 0)) W := by
  obtain ⟨A, c, rfl⟩ := Kd.R_slice h
  rw [← nil_is h hn]
  exact Lib.run_eql_slice_nil W _ _ A _ _ 0 0 ht
theorem guard_nil_is {α : Type} {P : Program} (t : TypeId) {d : Kd α} {e base : Nat} {ok : Nat → Prop} {w : World} {v : Value} {xs : List α} (h : d.R e w base ok v xs) (x y : Operand) (W : World) :
    Sem.run P (eqGuard .eql t x y v (.slice none 0 0)) W = .ok () W := by
  obtain ⟨A, c, rfl⟩ := Kd.R_slice h
  rfl
theorem cut_zero {P : Program} {t e : TypeId} {z : Option Value} {sz by_ : Nat} (ht : P.underlying t = some (.slice e)) (hinfo : (P.info? e).map (fun i => (i.zero, i.size, i.bytes)) = some (z, sz, by_)) (W : World) (A : Option Addr) (n c : Nat) :
    (Instr.slice t (.slice A n c) none (some (.int .i64 0)) none).run P W = .ok (.slice A 0 c) W := by
  obtain ⟨i0, hi, _⟩ := Option.map_eq_some_iff.1 hinfo
  have hel : P.elem t = e := by simp [Program.elem, ht]
  have hu : P.underlying t = some (.slice (P.elem t)) := by rw [hel]; exact ht
  have ha : (A.map fun x => x.add 0) = A := by cases A <;> simp [Addr.add]
  rw [run_slice_h W t A n c hu .i64 0 (by omega) (by omega), hel]
  simp [sizeOf, typeInfo, hi, sliced, Result.andThen, ha]
theorem C_none {α : Type} {d : Kd α} {w : World} {xs : List α} (h : d.C w none xs.length xs) : xs = [] := by
  cases xs with
  | nil => rfl
  | cons x xs =>
    obtain ⟨ad, _, he, _⟩ := Kd.C_get h x 0 (by omega) (by simp)
    cases he
end Go.Proofs.YtfoaeigoajooeaaW.PrintWords
