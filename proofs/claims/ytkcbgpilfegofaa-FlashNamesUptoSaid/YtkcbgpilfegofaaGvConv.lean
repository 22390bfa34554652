/- Bytes to a string. Conditions: none. -/
import Derived.Test.YtkcbgpilfegofaaGvDraw3
import Derived.Laws.BytesArg
set_option linter.unusedVariables false
set_option linter.unusedSimpArgs false
namespace Go.Gv
open Go Go.RowKit
section
variable {P : Program} {ops : Array Oper} {e : Env} {w : World} {d : Option Nat} {ty : TypeId} {pos : String} {af : Array Edge} {g : Option (Nat × Bool)}
theorem q_toStr {s t el : TypeId} {x : Operand} {a : Option Addr} {n c : Nat} {xs : List Int} {l : List UInt8} (hs : P.underlying s = some (.slice el)) (he : P.underlying el = some (.int .u8)) (ht : P.underlying t = some .string)
    (hx : ev e x = .slice a n c) (hr : Row w a n c 1 (xs.map (Value.int .u8))) (hn : 0 < n) (hl : strOfNums xs = ⟨⟨l⟩⟩) (hw : wantedE ops e ⟨d, .convert s t x, ty, pos, af, g⟩ = true) : QuietAt P ops e w ⟨d, .convert s t x, ty, pos, af, g⟩ (vstr l) := by
  have hlen : xs.length = n := by have := hr.1; rw [List.length_map] at this; omega
  have h0 : 0 < xs.length := by omega
  obtain ⟨b, o, ha, _⟩ := hr.at1 0 (xs.getD 0 0) (by rw [List.getElem?_eq_getElem h0, List.getD_eq_getElem?_getD, List.getElem?_eq_getElem h0]; rfl)
  have hrun := run_convert_bytes_arg (P := P) w s el hs he b o n c xs hlen (fun i hi => by
    have hi' : i < xs.length := by omega
    obtain ⟨b', o', ha', hh⟩ := hr.at1 i (xs.getD i 0) (by rw [List.getElem?_eq_getElem hi', List.getD_eq_getElem?_getD, List.getElem?_eq_getElem hi']; rfl)
    rw [ha] at ha'
    cases ha'
    exact hh) t ht
  rw [hl] at hrun
  subst ha
  exact .inl ⟨hw, rfl, by simp [execOp, hx, hrun]⟩
end
end Go.Gv
