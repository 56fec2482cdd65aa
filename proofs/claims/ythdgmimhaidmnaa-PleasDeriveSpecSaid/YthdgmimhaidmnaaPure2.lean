/- Following and accepting reasons, in plain Lean. -/
import Derived.Test.YthdgmimhaidmnaaPure
namespace Go.Proofs.Ythdgmimhaidmnaa
set_option linter.unusedSimpArgs false
set_option linter.unusedVariables false

def followsB (p : Pl) (S : Int → Bool) (K : Known) (x : Rs) : Bool :=
  if !litB x.lit || K x.lit != 0 || decide (x.clause < 0) || decide ((p.clauses.length : Int) < x.clause) then false
  else if !x.proved then x.clause == 0 && refutesB p S K x.lit
  else if x.clause == 0 then S x.lit
  else (p.clauses[(x.clause - 1).toNat]?.getD default).thn == x.lit && onB K (p.clauses[(x.clause - 1).toNat]?.getD default) && provesB p S K x.lit

def acceptsFrom (p : Pl) (S : Int → Bool) : Known → List Rs → Bool
  | _, [] => true
  | K, x :: r => followsB p S K x && acceptsFrom p S (learnK K x.lit x.proved) r

/-- What Accepts gives. -/
def acceptsB (L : List Int) (p : Pl) (l : List Rs) : Bool × Int :=
  if checkB L p != 0 then (false, checkB L p) else (acceptsFrom p (strictOf p).contains (fun _ => 0) l, 0)

theorem accepts_drop (p : Pl) (S : Int → Bool) (K : Known) (l : List Rs) (k : Nat) (h : k < l.length) :
    acceptsFrom p S K (l.drop k) = (followsB p S K (l[k]?.getD default) && acceptsFrom p S (learnK K (l[k]?.getD default).lit (l[k]?.getD default).proved) (l.drop (k + 1))) := by
  rw [List.drop_eq_getElem_cons h]; simp [acceptsFrom, h]

end Go.Proofs.Ythdgmimhaidmnaa
