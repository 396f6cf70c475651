/- Parts of the proof, joined: Qm. -/
import Derived.Test.YtnkhnnojdlgfjaaDoorUF20
namespace Go.Proofs.YtnkhnnojdlgfjaaDoor.Qu
open Go Go.RowKit Go.Proofs Go.Proofs.YtnkhnnojdlgfjaaDoor Go.Proofs.YtnkhnnojdlgfjaaDoor.Tr Go.Proofs.YtnkhnnojdlgfjaaDoor.Tk Go.Proofs.YtnkhnnojdlgfjaaDoor.Tm
set_option linter.unusedVariables false
structure Q where
  t : St
  cur : Int
  v : Int
  mn : Int
  load : Int
  ws : List Int
def q0 : Q := ⟨⟨[], 0⟩, 0, 0, 0, 0, []⟩
def inA (t : St) (x : Int) : Bool := (gn t x.toNat).inn
def hereA (q : Q) (id : Int) : Bool := q.cur == id || inA q.t id
def weighedA (w : Int) : Bool := decide (1 ≤ w) && decide (w ≤ 88761)
def knownA (q : Q) (id : Int) : Bool := decide (0 ≤ id) && decide (id < (q.ws.length : Int))
def keysA (q : Q) : List K := if q.cur = -1 then walkA q.t else ins q.mn (walkA q.t) (q.v, q.cur)
def farA (mn : Int) (k : K) : Bool := decide (lagf mn k.1 < -1125899906842624) || decide (1125899906842624 < lagf mn k.1)
def sumA : List Int → Int → Int
  | [], s => s
  | w :: l, s => sumA l (wrap64 (s + w))
def okI (q : Q) (i : Nat) : Bool := (hereA q (i : Int) == weighedA (q.ws.getD i 0)) && (hereA q (i : Int) || q.ws.getD i 0 == 0)
def okW (q : Q) : Bool := (List.range q.ws.length).all (okI q)
def okT (q : Q) : Bool := decide (q.ws.length = q.t.ns.length) && (decide (-1 ≤ q.cur) && (decide (q.cur < (q.t.ns.length : Int)) && rightA q.t q.mn))
def okC (q : Q) : Bool := if q.cur = -1 then q.v == 0 else !(inA q.t q.cur)
def rightQ (q : Q) : Bool := okT q && (okC q && (okW q && (sumA q.ws 0 == q.load && !((keysA q).any (farA q.mn)))))
def keysF (q : Q) : List K := if rightQ q = true then keysA q else []
def newQ (n mn : Int) : Q × Int := if n < 0 ∨ 64 < n then (q0, 1) else (⟨(newA n).1, -1, 0, mn, 0, List.replicate n.toNat 0⟩, 0)
def weighA (q : Q) (id w : Int) : Q := { q with load := wrap64 (q.load + wrap64 (w - q.ws.getD id.toNat 0)), ws := q.ws.set id.toNat w }
def clampA (x lo hi : Int) : Int := if x < lo then lo else if hi < x then hi else x
def atA (mn lag : Int) : Int := IntKind.u64.wrap (mn + IntKind.u64.wrap lag)
def beforeA (a b : Int) : Bool := IntKind.u64.wrap (b - a) != 0 && decide (IntKind.u64.wrap (b - a) < 9223372036854775808)
def laterA (a b : Int) : Int := if beforeA a b = true then b else a
def stepA (v mn d : Int) : Int := if d < 1 ∨ 1125899906842624 ≤ lagf mn v then v else IntKind.u64.wrap (v + (if IntKind.u64.wrap (1125899906842624 - IntKind.u64.wrap (lagf mn v)) < d then IntKind.u64.wrap (1125899906842624 - IntKind.u64.wrap (lagf mn v)) else d))
def deltaA (d w : Int) : Int := if 281474976710656 < d * 1024 / w then 281474976710656 else d * 1024 / w
def upA (q : Q) : Q := match keysA q with
  | [] => q
  | k :: _ => { q with mn := laterA q.mn k.1 }
def enterA (q : Q) (id w lag : Int) : Option (Q × Int) :=
  if rightQ q = false then some (q0, 4) else if (knownA q id && weighedA w) = false then some (q0, 1) else if hereA q id = true then some (q0, 9)
  else (insA q.t q.mn (atA q.mn (clampA lag (-1048576) 1125899906842624), id)).map fun r => (weighA { q with t := r.1 } id w, r.2)
def leaveA (q : Q) (id : Int) : Option (Q × Int × Int) :=
  if rightQ q = false then some (q0, 0, 4) else if knownA q id = false then some (q0, 0, 1) else if hereA q id = false then some (q0, 0, 8)
  else if id = q.cur then some (weighA { q with cur := -1, v := 0 } id 0, lagf q.mn q.v, 0)
  else (delF q.t q.mn id).map fun r => (weighA { q with t := r.1 } id 0, lagf q.mn (gn q.t id.toNat).v, r.2)
def backA (q : Q) : Option Q := if q.cur = -1 then some q else (insA q.t q.mn (q.v, q.cur)).map fun r => { q with t := r.1, cur := -1, v := 0 }
def firstK (l : List K) : K := l.getD 0 (0, 0)
def pickA (q : Q) : Option (Q × Int × Int) :=
  if rightQ q = false then some (q0, 0, 4) else if keysA q = [] then some (q0, 0, 8)
  else (backA q).bind fun x => (delF x.t x.mn (firstK (walkA x.t)).2).map fun r => (upA { x with t := r.1, cur := (firstK (walkA x.t)).2, v := (firstK (walkA x.t)).1 }, (firstK (walkA x.t)).2, r.2)
def tickA (q : Q) (d : Int) : Q × Bool × Int :=
  if rightQ q = false then (q0, false, 4) else if d < 0 ∨ 1099511627776 < d then (q0, false, 1) else if q.cur = -1 then (q0, false, 8)
  else
    let x := upA { q with v := stepA q.v q.mn (deltaA d (q.ws.getD q.cur.toNat 0)) }
    (x, decide (0 < (walkA x.t).length) && decide (cvf x.mn (firstK (walkA x.t)) (x.v, x.cur) < 0), 0)
end Go.Proofs.YtnkhnnojdlgfjaaDoor.Qu
