/-
  A REGION THAT DRAWS ITS ORDER, whose operations read and whose callees make memory (and leave all that was there as it was): one walk in the order of the text.
-/
import Derived.Test.YtdgphhpeebieaaaDoorBk
import Derived.Deep.Quiet
import Derived.BigQuiet
import Derived.Laws.Rows
namespace Go.Proofs.YtdgphhpeebieaaaDoor
open Go.RowKit
set_option linter.unusedVariables false

/-- What was there at w0 stands. -/
def Bl (w0 : World) (w : World) : Prop := Below w0.heap.size w0 w
theorem Bl.self (w : World) : Bl w w := Below.refl _ _
theorem Bl.call {w0 w w' : World} (h : Bl w0 w) (hb : Below w.heap.size w w') : Bl w0 w' := h.trans (hb.mono h.size)
theorem Bl.blk {w0 w : World} (h : Bl w0 w) {g : Nat} {t : TypeId} {cs : Array Value} (hb : Blk w0 g t cs) : Blk w g t cs := hb.below h hb.lt
theorem Bl.cell {w0 w : World} (h : Bl w0 w) {p : Addr} {v : Value} (hc : w0.cell? p = some v) : w.cell? p = some v := (Below.cell h (World.block_lt_of_cell? w0 _ hc)).trans hc
theorem Bl.frozen {w0 w : World} (h : Bl w0 w) {p : Addr} {v : Value} (hc : w0.cell? p = some v) (hf : w0.frozen? p = false) : w.frozen? p = false := (Below.frozen h (World.block_lt_of_cell? w0 _ hc)).trans hf

/-- the walk in the order of the text, shut (so that nothing opens it by the way) -/
structure Calm (P : Program) (ops : Array Oper) (C : World → Prop) (Q : Act → Prop) (l : List Oper) (a : Act) : Prop where
  out : wpQuiet P ops C Q l a
section
variable {P : Program} {ops : Array Oper} {C : World → Prop} {Q : Act → Prop} {rest : List Oper} {o : Oper} {a : Act}
theorem wp_region_calm {id : Nat} {Q : Exit → Act → World → Prop} {a : Act} {w : World} {l : List Oper} (hm : P.follows .mixedOrders = true) (hB : Region.lexB .any l.toArray = true)
    (h : Calm P l.toArray (Bl w) (fun a' => ∀ w', Bl w w' → Q .normal a' w') l a) : (Code.region id l.toArray true).wp P Q a w :=
  wp_region_quiet (C := Bl w) hm hB (show Below _ _ _ from ⟨rfl, rfl, rfl, Nat.le_refl _, fun _ _ => rfl⟩) (by simpa using h.out)
theorem wp_region_calm_at {id : Nat} {Q : Exit → Act → World → Prop} {a : Act} {w : World} {l : List Oper} (C : World → Prop) (hm : P.follows .mixedOrders = true) (hB : Region.lexB .any l.toArray = true) (hC : C w.drew)
    (h : Calm P l.toArray C (fun a' => ∀ w', C w' → Q .normal a' w') l a) : (Code.region id l.toArray true).wp P Q a w :=
  wp_region_quiet (C := C) hm hB hC (by simpa using h.out)
theorem calm_nil (h : Q a) : Calm P ops C Q [] a := ⟨wpQuiet_nil h⟩
theorem calm_skip (hw : Region.wanted o (yielded ops a.tmps) = false) (h : Calm P ops C Q rest (a.put o.dst undef)) : Calm P ops C Q (o :: rest) a :=
  ⟨BigFrame.wpQuiet_skip hw h.out⟩
theorem calm_quiet (hw : Region.wanted o (yielded ops a.tmps) = true) {v : Value} (hv : ∀ w, C w → o.quietAt P a C w v) (h : Calm P ops C Q rest (a.put o.dst v)) : Calm P ops C Q (o :: rest) a :=
  ⟨BigFrame.wpQuiet_want hw fun K hK => ⟨v, hv, hK _ h.out⟩⟩
theorem calm_val (hw : Region.wanted o (yielded ops a.tmps) = true) {v : Value} (hv : ∀ w, C w → (execOp a.eval o).run P w = .ok (.value v) w) (h : Calm P ops C Q rest (a.put o.dst v)) : Calm P ops C Q (o :: rest) a :=
  calm_quiet hw (fun w hC => by unfold Oper.quietAt; rw [hv w hC]; exact ⟨rfl, rfl⟩) h
theorem calm_move (hw : Region.wanted o (yielded ops a.tmps) = true) (x : Operand) (ho : o.op = .move x) (v : Value) (hx : a.eval x = v) (h : Calm P ops C Q rest (a.put o.dst v)) : Calm P ops C Q (o :: rest) a :=
  calm_quiet hw (fun w hC => by unfold Oper.quietAt; rw [BigFrame.run_move x ho, hx]; exact ⟨rfl, rfl⟩) h
theorem calm_assign (hw : Region.wanted o (yielded ops a.tmps) = true) (x : Operand) (ho : o.op = .assign x) (v : Value) (hx : a.eval x = v) (h : Calm P ops C Q rest (a.put o.dst v)) : Calm P ops C Q (o :: rest) a :=
  calm_quiet hw (fun w hC => by unfold Oper.quietAt; rw [BigFrame.run_assign x ho, hx]; exact ⟨rfl, rfl⟩) h
theorem calm_call (hw : Region.wanted o (yielded ops a.tmps) = true) (f : FuncId) (args : Array Value) {v : Value} (he : ∀ w, (execOp a.eval o).run P w = .ok (.enter f args) w)
    (hc : ∀ w, C w → Calls P f args w fun e w'' => e = .returned v ∧ C w'') (h : Calm P ops C Q rest (a.put o.dst v)) : Calm P ops C Q (o :: rest) a :=
  calm_quiet hw (fun w hC => by unfold Oper.quietAt; rw [he w]; exact ⟨rfl, hc w hC⟩) h
theorem calm_load_row (hw : Region.wanted o (yielded ops a.tmps) = true) (ty : TypeId) (x : Operand) (ho : o.op = .load ty x) (g : Nat) (hx : a.eval x = .pointer (some ⟨g, 0, none⟩)) (t : TypeId) (cs : Array Value) (fr : Nat × Nat) (d : TypeDesc)
    (hg : ∀ w, C w → w.heap[g]? = some (.cells cs t fr)) (hu : P.underlying ty = some d) (hd : (match d with | .struct _ | .array _ _ => true | _ => false) = true) (hi : (P.info? ty).map (·.size) = some cs.size)
    (h : Calm P ops C Q rest (a.put o.dst (.agg cs))) : Calm P ops C Q (o :: rest) a :=
  calm_val hw (fun w hC => by
    have h1 := run_loadVar_row (P := P) w g t ty cs fr d (hg w hC) hu hd hi
    unfold execOp
    simp only [ho, hx, Instr.loadAt, Instr.sureAddr, Sem.run_bind, Sem.run_pure, Result.andThen_ok, h1]) h
end
end Go.Proofs.YtdgphhpeebieaaaDoor
