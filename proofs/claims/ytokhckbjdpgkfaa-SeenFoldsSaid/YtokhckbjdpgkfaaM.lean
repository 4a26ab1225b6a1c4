/- The plain functions that the marks' calls (seen.May, Last, goes, Take, Cut, Fold) come to, as the proofs of this claim use them; no program in sight. -/
import Derived.Test.YtokhckbjdpgkfaaPx0
namespace Go.Proofs.Ytokhckbjdpgkfaa.P
set_option linter.unusedVariables false
set_option linter.unusedSimpArgs false
open Go.RowKit

/-- May a mark be? -/
def mayM (m : S38) : Bool := decide (1 ≤ m.f0) && (decide (m.f0 ≤ 15) && (decide (1 ≤ m.f1) && (decide (m.f1 ≤ 4611686018427387903) && decide (m.f2 ≤ 4611686018427387903))))
/-- Each producer is above the one ahead of it. -/
def strictUp : List S38 → Bool
  | a :: b :: r => decide (a.f0 < b.f0) && strictUp (b :: r)
  | _ => true
def mayRow (l : List S38) : Bool := decide (l.length ≤ 6) && (l.all mayM && strictUp l)
def seen_May.f (l : List S38) : Option Bool := if l.length ≤ 5864062014805 then some (mayRow l) else none

/-- A producer's last mark. -/
def lastM (l : List S38) (p : Int) : Option S38 := l.reverse.find? fun m => m.f0 == p
def seen_Last.f (l : List S38) (p : Int) : Option (Int × Int × Int × Bool) :=
  match lastM l p with
  | some m => some (m.f0, m.f1, m.f2, true)
  | none => some (0, 0, 0, false)

/-- Where the first thing that is so stands; -1: there is none. -/
def idxOf {α : Type} (p : α → Bool) (l : List α) : Int := match l.findIdx? p with
  | some i => (i : Int)
  | none => -1
/-- The place of a mark that goes into a row: ahead of the first one with a greater producer. -/
def placeOf (l : List S38) (m : S38) : Nat := match l.findIdx? fun x => decide (x.f0 > m.f0) with
  | some i => i
  | none => l.length
/-- A mark goes into a row; none: there is no room. -/
def goesOne (l : List S38) (m : S38) : Option (List S38) :=
  match l.findIdx? fun x => x.f0 == m.f0 with
  | some i => if (l.getD i z38).f1 < m.f1 then some (l.set i m) else some l
  | none => if l.length ≥ 6 then none else some (l.take (placeOf l m) ++ ([m] ++ l.drop (placeOf l m)))
def goesAll : List S38 → List S38 → Option (List S38)
  | l, [] => some l
  | l, m :: r => match goesOne l m with
    | some l' => goesAll l' r
    | none => none
def seen_goes.f (l more : List S38) : Option (List S38 × Int) :=
  if l.length ≤ 5864062014000 ∧ more.length ≤ 5864062014805 then
    match goesAll l more with
    | some r => some (r, 0)
    | none => some ([], 3)
  else none

/-- May an entry be? -/
def mayE (e : S30) : Bool := decide (1 ≤ e.f0) && (decide (e.f0 ≤ 15) && (decide (1 ≤ e.f1) && (decide (e.f1 ≤ 4611686018427387903) && decide ((e.f2.length : Int) ≤ 64))))
/-- The marks of entries that stand from an offset on. -/
def marksFrom (fr : Int) : List S30 → List S38
  | [] => []
  | e :: r => ⟨e.f0, e.f1, fr⟩ :: marksFrom (fr + 1) r
def seen_Take.f (l : List S38) (fr : Int) (es : List S30) : Option (List S38 × Int) :=
  if l.length ≤ 5864062014000 ∧ es.length ≤ 1000000000000 ∧ 0 ≤ fr then
    if mayRow l && es.all mayE then
      if es = [] then some (l, 0)
      else if fr + es.length ≤ 4611686018427387904 then
        match goesAll l (marksFrom fr es) with
        | some r => some (r, 0)
        | none => some ([], 3)
      else some ([], 1)
    else some ([], 1)
  else none

def seen_Cut.f (l : List S38) (at_ : Int) : Option (List S38) := if l.length ≤ 5864062014805 then some (l.filter fun m => decide (m.f2 < at_)) else none

/-- One mark taken up by a fold. -/
def foldOne (at_ : Int) (out : List S38) (m : S38) : List S38 := if m.f2 ≥ at_ then out else (out.filter fun x => !(x.f0 == m.f0)) ++ [m]
/-- A mark put where it belongs by its producer. -/
def putBy (m : S38) : List S38 → List S38
  | [] => [m]
  | x :: r => if m.f0 < x.f0 then m :: x :: r else x :: putBy m r
def sortBy : List S38 → List S38
  | [] => []
  | x :: r => putBy x (sortBy r)
def seen_Fold.f (base log : List S38) (at_ : Int) : Option (List S38) :=
  if base.length + log.length ≤ 5864062014000 then some (sortBy ((base ++ log).foldl (foldOne at_) [])) else none

def scrivenerlaw19_awake.f : Option Bool := some true

end Go.Proofs.Ytokhckbjdpgkfaa.P
