/- The plain models: grids, beams, rounds. No program in sight. -/
import Derived.LoadGo2
namespace Go.Proofs.Ytjejdebmlgjdeaa
set_option maxRecDepth 100000
set_option linter.unusedSimpArgs false
set_option linter.unusedVariables false

abbrev Str := List UInt8
abbrev Grid := List Str

def okL (c : UInt8) : Bool := decide (c = 46 ∨ c = 114 ∨ c = 102)
/-- a row of m letters -/
def rowOk (m : Nat) (r : Str) : Bool := r.length == m && r.all okL
def gridIn (g : Grid) : Bool := decide (1 ≤ g.length) && decide (g.length ≤ 5) && decide (1 ≤ (g.getD 0 []).length) && decide ((g.getD 0 []).length ≤ 5) && g.all (rowOk (g.getD 0 []).length)
abbrev nR (g : Grid) : Nat := g.length
abbrev nC (g : Grid) : Nat := (g.getD 0 []).length
def exch (c : UInt8) : UInt8 := if c = 114 then 102 else if c = 102 then 114 else c
def bend (c : UInt8) (d : Nat) : Nat := if c = 114 then (if d = 0 then 1 else if d = 1 then 0 else if d = 2 then 3 else 2) else if c = 102 then 3 - d else d
def letter (g : Grid) (cell : Nat) : UInt8 := (g.getD (cell / nC g) []).getD (cell % nC g) 0
def ports (g : Grid) : Nat := 2 * nR g + 2 * nC g

/-- the first step of a port: the cell and the direction -/
def enterN (n m p : Nat) : Nat × Nat :=
  if p < m then (p, 2) else if p < m + n then ((p - m) * m + m - 1, 3) else if p < 2 * m + n then ((n - 1) * m + m - 1 - (p - m - n), 0) else ((n - 1 - (p - 2 * m - n)) * m, 1)
/-- where one comes from a cell in a direction: out at a port, or the next step -/
def goN (n m cell d : Nat) : Sum Nat (Nat × Nat) :=
  let r := cell / m
  let c := cell % m
  if d = 0 then (if r = 0 then .inl c else .inr (cell - m, 0))
  else if d = 1 then (if c + 1 = m then .inl (m + r) else .inr (cell + 1, 1))
  else if d = 2 then (if r + 1 = n then .inl (2 * m + n - 1 - c) else .inr (cell + m, 2))
  else (if c = 0 then .inl (2 * m + 2 * n - 1 - r) else .inr (cell - 1, 3))
def afterN (g : Grid) (s : Nat × Nat) : Sum Nat (Nat × Nat) := goN (nR g) (nC g) s.1 (bend (letter g s.1) s.2)

/-- the steps from s on, and the port at which the grid is left, within so many steps -/
def wayF (g : Grid) : Nat → Nat × Nat → List (Nat × Nat) × Nat
  | 0, _ => ([], 0)
  | f + 1, s => match afterN g s with
    | .inl p => ([s], p)
    | .inr s' => (s :: (wayF g f s').1, (wayF g f s').2)
def leaves (g : Grid) : Nat → Nat × Nat → Bool
  | 0, _ => false
  | f + 1, s => match afterN g s with
    | .inl _ => true
    | .inr s' => leaves g f s'
def way (g : Grid) (p : Nat) : List (Nat × Nat) × Nat := wayF g (4 * (nR g * nC g)) (enterN (nR g) (nC g) p)
/-- the letter of a direction -/
def dirL (d : Nat) : UInt8 := ([117, 114, 100, 108] : List UInt8).getD d 0
def portIn (g : Grid) (port : Int) : Bool := gridIn g && decide (0 ≤ port ∧ port < ports g)
def proofBeam (g : Grid) (port : Int) : Str × Bool := if portIn g port = true then ([98, 101, 97, 109, 32] ++ (way g port.toNat).1.map (fun s => dirL s.2), true) else ([], false)
end Go.Proofs.Ytjejdebmlgjdeaa
