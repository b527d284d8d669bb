/- A statement whose order Go leaves open, walked in one order that is told beforehand: what reads is taken when it may come up, a call when nothing else may. -/
import Derived.Test.YtdmbbocjaagfkaaWTab
import Derived.Test.YtdmbbocjaagfkaaBa
namespace Go.Proofs.Ytdmbbocjaagfkaa.Z
open Go.RowKit Go.Proofs.YtdmbbocjaagfkaaW.PrintWords Go.Proofs.YtdmbbocjaagfkaaW.PrintLast
set_option linter.unusedVariables false

/-- Which of n operations have come up. -/
def lst (n : Nat) (dn : List Nat) : List Bool := (List.range n).map (fun i => dn.contains i)
/-- What is left of a region: dn has come up, todo comes yet, in this order. -/
def Lin (P : Program) (ops : Array Oper) (Q : Exit → Act → World → Prop) (S : World → Prop) (T : Bool × List (List Nat × List Nat)) (n : Nat) (dn todo : List Nat) (a : Act) (w : World) : Prop :=
  Aside0 (rtab .any ops = T) → S w → wpAnyLast P .any ops Q S [] todo.length (lst n dn).toArray a w
section
variable {P : Program} {ops : Array Oper} {Q : Exit → Act → World → Prop} {S : World → Prop} {T : Bool × List (List Nat × List Nat)} {n : Nat} {dn rest : List Nat} {i : Nat} {oi : Oper} {N : Option Tmp} {a : Act} {w : World}
theorem lin_start {id : Nat} (S : World → Prop) (T : Bool × List (List Nat × List Nat)) (ord : List Nat) (hm : P.follows .mixedOrders = true) (hT : rtab .any ops = T) (hn : (ops.size == ord.length) = true) (hS : S w.drew)
    (h : Lin P ops Q S T ord.length [] ord a w.drew) : (Code.region id ops true).wp P Q a w := by
  have hn' : ops.size = ord.length := by simpa using hn
  refine start_ (n := ord.length) (S := S) (ds := []) ((lst ord.length []).toArray) hm hn' ?_ hS (fun hS => h ⟨hT⟩ hS)
  apply Array.ext'
  simp [lst, List.map_const']
theorem lin_take {v : Value} {a' : Act} (hi : ops[i]? = some oi) (hN : oi.dst = N) (hc : takeT T [] (lst n dn) (lst n (i :: dn)) i = true)
    (hQ : ∀ c a w, Q (.panic c) (a.put oi.dst v) w → Q (.panic c) a w) (hw : Region.wanted oi (yielded ops a.tmps) = true) (hy : ∀ w, S w → (execOp a.eval oi).run P w = .ok (.value v) w) (ha : a.put N v = a')
    (h : Lin P ops Q S T n (i :: dn) rest a' w) : Lin P ops Q S T n dn (i :: rest) a w :=
  fun hT hS => take_ (lst n (i :: dn)).toArray hi hN (take_of hT.out (by simpa using hc)) hQ (.inl ⟨hw, hy⟩) hS ha (h hT hS)
theorem lin_off {a' : Act} (hi : ops[i]? = some oi) (hN : oi.dst = N) (hc : takeT T [] (lst n dn) (lst n (i :: dn)) i = true)
    (hQ : ∀ c a w, Q (.panic c) (a.put oi.dst undef) w → Q (.panic c) a w) (hw : Region.wanted oi (yielded ops a.tmps) = false) (ha : a.put N undef = a')
    (h : Lin P ops Q S T n (i :: dn) rest a' w) : Lin P ops Q S T n dn (i :: rest) a w :=
  fun hT hS => take_ (lst n (i :: dn)).toArray hi hN (take_of hT.out (by simpa using hc)) hQ (.inr ⟨hw, rfl⟩) hS ha (h hT hS)
theorem lin_one (hi : ops[i]? = some oi) (hN : oi.dst = N) (hc : (readyT T.2 (lst n dn) == [i] && (lst n dn).set i true == lst n (i :: dn)) = true)
    (h : S w → ∀ K : Act → World → Prop, Shut (∀ a' w', S w' → Lin P ops Q S T n (i :: dn) rest a' w' → K a' w') → if Region.wanted oi (yielded ops a.tmps) = true then Oper.wp P oi a w K Q else K (a.put N undef) w) :
    Lin P ops Q S T n dn (i :: rest) a w :=
  fun hT hS => one_ (lst n (i :: dn)).toArray hi hN (one_of hT.out (by simpa using hc)) (by simp) (fun K hK => h hS K (fun a' w' h1 h2 => hK.out a' w' h1 (fun h3 => h2 hT h3)))
theorem lin_call {f : FuncId} {fn : Func} {xs : Array Operand} {ts : Array TypeId} {args : Array Value} (hi : ops[i]? = some oi) (hop : oi.op = .call { callee := .value (.func f), args := xs, argTypes := ts }) (hN : oi.dst = N) (hf : P.funcs[f]? = some fn)
    (hc : (readyT T.2 (lst n dn) == [i] && (lst n dn).set i true == lst n (i :: dn)) = true) (hname : (fn.name == "runtime.NumGoroutine") = false) (hb : fn.body.isSome = true)
    (hw : Region.wanted oi (yielded ops a.tmps) = true) (hargs : xs.map a.eval = args)
    (h : S w → Calls P f args w fun e w' => ∃ v, e = .returned v ∧ S w' ∧ Lin P ops Q S T n (i :: dn) rest (a.put N v) w') : Lin P ops Q S T n dn (i :: rest) a w :=
  lin_one hi hN hc (fun hS K hK => goes_ hf hname hb args hw hN hop hargs ((h hS).mono fun e w' ⟨v, he, h1, h2⟩ => ⟨v, he, hK.out _ _ h1 h2⟩))
theorem lin_norm {a' : Act} {todo : List Nat} (ha : a = a') (h : Lin P ops Q S T n dn todo a' w) : Lin P ops Q S T n dn todo a w := by
  subst ha
  exact h
theorem lin_done (hc : (readyT T.2 (lst n dn) == []) = true) (h : Q .normal a w) : Lin P ops Q S T n dn [] a w :=
  fun hT _ => done_ (done_of hT.out (by simpa using hc)) h
end
end Go.Proofs.Ytdmbbocjaagfkaa.Z
