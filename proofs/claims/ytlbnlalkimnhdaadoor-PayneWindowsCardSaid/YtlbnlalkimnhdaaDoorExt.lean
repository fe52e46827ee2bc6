/-
  The functions without a body that the seat reaches, as the reckoner asks for them; the package tables. Closed facts of the program.
-/
import Derived.Test.YtlbnlalkimnhdaaDoorSimU
import Derived.Test.YtlbnlalkimnhdaaDoorProg
import Derived.Test.YtlbnlalkimnhdaaDoorRows
namespace Go.Proofs.YtlbnlalkimnhdaaDoor.Sim
set_option linter.unusedVariables false
def xAdd : List Value → Option PV
  | [.int .u64 x, .int .u64 y, .int .u64 c] => match Nat.ble c.toNat 1 with
    | true => some (.tup [.val (.int .u64 (Int.ofNat ((x.toNat + y.toNat + c.toNat) % 18446744073709551616))), .val (.int .u64 (Int.ofNat ((x.toNat + y.toNat + c.toNat) / 18446744073709551616)))])
    | false => none
  | _ => none
def xSub : List Value → Option PV
  | [.int .u64 x, .int .u64 y, .int .u64 c] => match Nat.ble c.toNat 1 with
    | true => some (.tup [.val (.int .u64 (Int.ofNat ((x.toNat + 18446744073709551616 - y.toNat - c.toNat) % 18446744073709551616))), .val (.int .u64 (Int.ofNat (bif Nat.blt x.toNat (y.toNat + c.toNat) then 1 else 0)))])
    | false => none
  | _ => none
def xToBits : List Value → Option PV
  | [.float .f64 b] => some (.val (.int .u64 (Int.ofNat b)))
  | _ => none
def xFromBits : List Value → Option PV
  | [.int .u64 n] => some (.val (.float .f64 n.toNat))
  | _ => none
section
variable {P : Program} {f : FuncId} {fn : Func}
theorem three_run (nm : String) (x y c : Int) (hc : c.toNat ≤ 1) (w : World) : (Extern.MathBitsCarry.three nm [Value.int .u64 x, Value.int .u64 y, Value.int .u64 c].toArray).run P w = .ok (x.toNat, y.toNat, c.toNat) w := by
  have h : Extern.MathBitsCarry.three nm [Value.int .u64 x, Value.int .u64 y, Value.int .u64 c].toArray = (do
      let c ← asInt (Value.int .u64 c)
      if c.toNat > 1 then unsupported (.noEntry ("extern/math/bits." ++ nm ++ ": a carry that is neither 0 nor 1"))
      pure ((← asInt (Value.int .u64 x)).toNat, (← asInt (Value.int .u64 y)).toNat, c.toNat)) := rfl
  have h1 : ¬ c.toNat > 1 := by omega
  rw [h]
  simp [asInt, asIntOf]
  omega
theorem ext_add (hf : P.funcs[f]? = some fn) (h1 : (fn.name == "runtime.NumGoroutine") = false) (h2 : fn.body.isNone = true) (h3 : Extern.findNext fn = none) {e : Array Value → Sem Value} (h4 : Extern.find fn = some e) (he : e = fun args => do let (x, y, c) ← Extern.MathBitsCarry.three "Add64" args; pure (Extern.MathBitsCarry.pair ((x + y + c) % Extern.MathBitsCarry.m64) ((x + y + c) / Extern.MathBitsCarry.m64)))
    (vs : List Value) (r : PV) (h : xAdd vs = some r) : ExtOk P f vs r := by
  subst he
  unfold xAdd at h
  split at h
  · rename_i x y c
    split at h
    · rename_i hc
      cases h
      refine ⟨_, fun cx => .tup (.cons (.val _) (.cons (.val _) .nil)), fun w => run_ext hf h1 h2 h3 h4 (fun w => ?_) w⟩
      simp only [Sem.run_bind, three_run _ x y c (Nat.le_of_ble_eq_true hc), Result.andThen_ok]
      rfl
    · cases h
  · cases h
theorem ext_sub (hf : P.funcs[f]? = some fn) (h1 : (fn.name == "runtime.NumGoroutine") = false) (h2 : fn.body.isNone = true) (h3 : Extern.findNext fn = none) {e : Array Value → Sem Value} (h4 : Extern.find fn = some e) (he : e = fun args => do let (x, y, b) ← Extern.MathBitsCarry.three "Sub64" args; pure (Extern.MathBitsCarry.pair ((x + Extern.MathBitsCarry.m64 - y - b) % Extern.MathBitsCarry.m64) (if x < y + b then 1 else 0)))
    (vs : List Value) (r : PV) (h : xSub vs = some r) : ExtOk P f vs r := by
  subst he
  unfold xSub at h
  split at h
  · rename_i x y c
    split at h
    · rename_i hc
      cases h
      refine ⟨_, fun cx => .tup (.cons (.val _) (.cons (.val _) .nil)), fun w => run_ext hf h1 h2 h3 h4 (fun w => ?_) w⟩
      have e2 : (bif Nat.blt x.toNat (y.toNat + c.toNat) then 1 else 0) = (if x.toNat < y.toNat + c.toNat then 1 else 0) := by
        by_cases hlt : x.toNat < y.toNat + c.toNat
        · rw [if_pos hlt, Nat.blt_eq.mpr hlt]; rfl
        · rw [if_neg hlt]
          cases hb : Nat.blt x.toNat (y.toNat + c.toNat) with
          | true => exact absurd (Nat.blt_eq.mp hb) hlt
          | false => rfl
      rw [e2]
      simp only [Sem.run_bind, three_run _ x y c (Nat.le_of_ble_eq_true hc), Result.andThen_ok]
      simp only [Extern.MathBitsCarry.pair, Extern.MathBitsCarry.m64]
      by_cases hlt : x.toNat < y.toNat + c.toNat
      · rw [if_pos hlt]; rfl
      · rw [if_neg hlt]; rfl
    · cases h
  · cases h
theorem ext_toBits (hf : P.funcs[f]? = some fn) (h1 : (fn.name == "runtime.NumGoroutine") = false) (h2 : fn.body.isNone = true) (h3 : Extern.findNext fn = none) {e : Array Value → Sem Value} (h4 : Extern.find fn = some e) (he : e = Extern.MathFloatBits.float64bits)
    (vs : List Value) (r : PV) (h : xToBits vs = some r) : ExtOk P f vs r := by
  subst he
  unfold xToBits at h
  split at h
  · cases h
    exact ⟨_, fun cx => .val _, fun w => run_ext hf h1 h2 h3 h4 (fun w => rfl) w⟩
  · cases h
theorem ext_fromBits (hf : P.funcs[f]? = some fn) (h1 : (fn.name == "runtime.NumGoroutine") = false) (h2 : fn.body.isNone = true) (h3 : Extern.findNext fn = none) {e : Array Value → Sem Value} (h4 : Extern.find fn = some e) (he : e = Extern.MathFloatBits.float64frombits)
    (vs : List Value) (r : PV) (h : xFromBits vs = some r) : ExtOk P f vs r := by
  subst he
  unfold xFromBits at h
  split at h
  · cases h
    exact ⟨_, fun cx => .val _, fun w => run_ext hf h1 h2 h3 h4 (fun w => rfl) w⟩
  · cases h
end
def XT : List (FuncId × (List Value → Option PV)) := [(98, xAdd), (74, xSub), (29, xToBits), (16, xFromBits)]
theorem xok : XOk Tryd.prog XT := by
  intro f e h vs r hr
  simp only [XT, extOf] at h
  split at h
  · rename_i hb
    cases h
    obtain rfl := (Nat.eq_of_beq_eq_true hb).symm
    exact ext_add Tryd.func98 (by rfl) (by rfl) (by rfl) (by rfl) rfl vs r hr
  · split at h
    · rename_i hb
      cases h
      obtain rfl := (Nat.eq_of_beq_eq_true hb).symm
      exact ext_sub Tryd.func74 (by rfl) (by rfl) (by rfl) (by rfl) rfl vs r hr
    · split at h
      · rename_i hb
        cases h
        obtain rfl := (Nat.eq_of_beq_eq_true hb).symm
        exact ext_toBits Tryd.func29 (by rfl) (by rfl) (by rfl) (by rfl) rfl vs r hr
      · split at h
        · rename_i hb
          cases h
          obtain rfl := (Nat.eq_of_beq_eq_true hb).symm
          exact ext_fromBits Tryd.func16 (by rfl) (by rfl) (by rfl) (by rfl) rfl vs r hr
        · cases h
end Go.Proofs.YtlbnlalkimnhdaaDoor.Sim
