/- A part of the proof that a session of datagrams answers as the reference (SessionDatagrams). Its contents: contracts of functions of the program, each stated with its premises. -/
import Derived.LaidByTextLater
namespace Go.Proofs.YtkaafdoplemjhaaGreatDoor
open Go
/-- The check of the regions, over the first n of a row. -/
def fitFirst (P : Program) : Nat → Code → List Nat → Bool
  | n + 1, .seq a b, st => a.regionsFit P st && fitFirst P n b ((a.laysInOrder st).getD st)
  | _, _, _ => true
def stAfter : Nat → Code → List Nat → List Nat
  | n + 1, .seq a b, st => stAfter n b ((a.laysInOrder st).getD st)
  | _, _, st => st
def tailOf : Nat → Code → Code
  | n + 1, .seq _ b => tailOf n b
  | _, c => c
theorem fit_of_first {P : Program} : ∀ (n : Nat) (c : Code) (st : List Nat), fitFirst P n c st = true → (tailOf n c).regionsFit P (stAfter n c st) = true → c.regionsFit P st = true
  | 0, c, st, _, h2 => by simpa [tailOf, stAfter] using h2
  | n + 1, c, st, h1, h2 => by
    cases c with
    | seq a b =>
      simp only [fitFirst, Bool.and_eq_true] at h1
      simp only [Code.regionsFit, Bool.and_eq_true]
      exact ⟨h1.1, fit_of_first n b _ h1.2 (by simpa [tailOf, stAfter] using h2)⟩
    | _ => simpa [tailOf, stAfter] using h2
noncomputable def opsOf : Code → Array Oper
  | .seq (.region _ o _) _ => o
  | _ => #[]
theorem region_fit {P : Program} {id : Nat} {ops : Array Oper} {d : Bool} {st : List Nat}
    (a1 : (ops.toList.all fun o => !o.op.barredAtDoor) = true) (a2 : (ops.isEmpty || !(storedIn ops).isEmpty || writesIn ops != 0) = true)
    (a3 : ((calledIn ops).all fun f => (P.closure f).all P.newOrTypeOf) = true)
    (a4 : (((ops.toList.flatMap (·.op.globalsBeside)).eraseDups.all fun u => !P.bearsDeep u) || (storedIn ops ++ (if writesIn ops == 0 then [] else st.getLast?.toList)).all P.toldDeep) = true)
    (a5 : (writesIn ops == 0) = true) (a6 : ((ops.toList.flatMap (·.op.globalsBeside)).isEmpty) = true) (a7 : decide ((storedIn ops).length ≤ 1) = true) : (Code.region id ops d).regionsFit P st = true := by
  simp only [Code.regionsFit]
  rw [a1, a2, a3, a4, a5, a6, a7]
  rfl
theorem first_of {P : Program} {id : Nat} {ops : Array Oper} {d : Bool} {c b : Code} {st : List Nat} (h : c = .seq (.region id ops d) b) (hr : (Code.region id ops d).regionsFit P st = true) : fitFirst P 1 c st = true := by
  rw [h]
  simp only [fitFirst, hr, Bool.and_self]
theorem named_of {P : Program} {g : FuncId} {laid : List (String × DataW Unit)} {code : Code} {stored : List Nat} (h1 : (P.funcs[g]?).bind (·.body) = some code) (h2 : code.laysInOrder [] = some stored)
    (h3 : (stored.eraseDups.length == stored.length) = true) (h4 : P.callsLaidAlone g code = true)
    (h5 : (laid.all fun x => (P.globalNamed x.1).any fun v => (stored.contains v == (P.kindBase x.1 != some .zero)) && callsFit code v (P.kindBase x.1) &&
          ((code.storedByHandle P).contains v == (P.kindBase x.1 == some .handle)) && (x.2.handleName?.isSome == (P.kindBase x.1 == some .handle || P.kindBase x.1 == some .funcs)) &&
          (P.kindBase x.1 != some .handle || handlePair x) && (x.2.funcsIn?.isSome == (P.kindBase x.1 == some .funcs)) && mapsFit code v x.2 (P.kindBase x.1)) = true) : varsNamedLaterB P g laid = true := by
  unfold varsNamedLaterB
  rw [h1]
  simp only [h2]
  rw [h3, h4, h5]
  rfl
theorem andTT {a b : Bool} (h : a = true) (k : b = true) : (a && b) = true := by rw [h, k]; rfl
theorem calls_of {P : Program} {g : FuncId} {code : Code} (h1 : (!code.unfollowedBeside P) = true) (h2 : (code.tempsApart 0).isSome = true) (h3 : code.regionsFit P [] = true)
    (h4 : ((code.storedByHandle P).isEmpty || ((P.funcNamed "(internal/reflectlite.rtype).Elem").any fun h => (P.funcs[h]?).any fun fn => fn.body.isNone && !entryCalls fn)) = true)
    (h5 : ((code.storedByHandle P).all fun v => P.globalNamed "errors.errorType" == some v) = true) : P.callsLaidAlone g code = true := by
  unfold Program.callsLaidAlone
  exact andTT (andTT (andTT (andTT h1 h2) h3) h4) h5
end Go.Proofs.YtkaafdoplemjhaaGreatDoor
