/- Each Go function that the law reaches keeps the contract that its Lean function states; conditions: none. -/
import Derived.Test.YtdfpkmdnoncliaaA1
import Derived.Test.YtdfpkmdnoncliaaSFnExactSplitChips0
import Derived.Test.YtdfpkmdnoncliaaProg
noncomputable section
set_option linter.unusedVariables false
set_option maxRecDepth 100000
namespace Go.Sh
open Go Go.AM Go.Proofs
namespace laws_toInt64S
def entry (k : Nat) : Entry := ⟨[.ro (.sl 2 (.int .i64))], [.own (.sl 2 (.int .i64))], fun (a0, _) => f k a0⟩
def env (k : Nat) : Env := ⟨Try.prog, 22, AM.look none [], AM.look none [(3, some ⟨[(0, .asis), (3, .asis), (4, .asis)], [(3, .asis)]⟩)]⟩
abbrev R := Res [.own (.sl 2 (.int .i64))] × Outs [.ro (.sl 2 (.int .i64))]
def sh3 : Shape := ⟨[(0, .val (.sl 2 (.int .i64))), (3, .ref 0), (4, .val (.int .i64))], [(0, .row 2 (.int .i64))], 1, []⟩
def osh3kx0 : Shape := ⟨[(3, .ref 0)], [(0, .row 2 (.int .i64))], 1, []⟩
def un3 : (List Int) × Int × (List Int) → sh3.V := fun (x0, x4, y0) => ((x0, ((), (x4, ()))), (y0, ()))
def fl3 : sh3.V → (List Int) × Int × (List Int) := fun ((x0, (_, (x4, _))), (y0, _)) => (x0, x4, y0)
def L (k : Nat) (q : Nat) (s : St) (K : AExit → St → Option R) : Option R := bif Nat.beq q 3 then (match sh3.dec s with | some v => l3 (R := R) k k (fl3 v) (fun y0 => K (.exit 0) (osh3kx0.enc (((), ()), (y0, ())))) | none => none) else (none)
theorem step3 (k n : Nat) (K : AExit → St → Option R) : ∀ v, aloop (aexec (env k) (L k) ((findLoop 3 (codeOf Try.f15)).getD .skip)) (normSt [(0, .asis), (3, .asis), (4, .asis)]) (normSt [(3, .asis)]) K (n + 1) (sh3.enc (un3 v)) = s3 (R := R) k (fun w => aloop (aexec (env k) (L k) ((findLoop 3 (codeOf Try.f15)).getD .skip)) (normSt [(0, .asis), (3, .asis), (4, .asis)]) (normSt [(3, .asis)]) K n (sh3.enc (un3 w))) (fun y0 => K (.exit 0) (osh3kx0.enc (((), ()), (y0, ())))) v := by intro v; kernel_rfl
theorem eq (k : Nat) : ∀ a, aexec (env k) (L k) (codeOf Try.f15) (begSt [.ro (.sl 2 (.int .i64))] a) (finK (env k) Try.f15 [.ro (.sl 2 (.int .i64))] [.own (.sl 2 (.int .i64))]) = (entry k).fn a := by intro a; kernel_rfl
theorem run3 (k : Nat) (K : AExit → St → Option R) : ∀ n v, aloop (aexec (env k) (L k) ((findLoop 3 (codeOf Try.f15)).getD .skip)) (normSt [(0, .asis), (3, .asis), (4, .asis)]) (normSt [(3, .asis)]) K n (sh3.enc (un3 v)) = l3 (R := R) k n v (fun y0 => K (.exit 0) (osh3kx0.enc (((), ()), (y0, ())))) := loop_eq (fun n v => aloop (aexec (env k) (L k) ((findLoop 3 (codeOf Try.f15)).getD .skip)) (normSt [(0, .asis), (3, .asis), (4, .asis)]) (normSt [(3, .asis)]) K n (sh3.enc (un3 v))) (fun n v => l3 (R := R) k n v (fun y0 => K (.exit 0) (osh3kx0.enc (((), ()), (y0, ()))))) (fun X v => s3 (R := R) k X (fun y0 => K (.exit 0) (osh3kx0.enc (((), ()), (y0, ())))) v) (fun _ => rfl) (fun n v => step3 k n K v) (fun n v => rfl)
theorem loops (k : Nat) : LoopsOk (env k) (L k) (codeOf Try.f15) := by
  intro c an hc han s K r h
  unfold L at h
  by_cases q3 : firstRegion c = 3
  · have h1 := key_eq q3 h
    rw [q3] at hc han
    have e2 : an = ⟨[(0, .asis), (3, .asis), (4, .asis)], [(3, .asis)]⟩ := (Option.some.inj (show some _ = some an from han)).symm
    have e1 : c = (findLoop 3 (codeOf Try.f15)).getD .skip := by rw [hc]; rfl
    cases hd : sh3.dec s with
    | none => rw [hd] at h1; cases h1
    | some v =>
      rw [hd] at h1
      refine ⟨k, ?_⟩
      rw [e1, e2, Shape.dec_enc _ _ _ hd]
      exact (run3 k K k (fl3 v)).trans h1
  have h := not_key q3 h
  cases h
theorem fit (k : Nat) : codeFit (env k) (codeOf Try.f15) = true := by kernel_rfl
theorem lps : (loopsIn (codeOf Try.f15)).map (fun d => findLoop (firstRegion d) (codeOf Try.f15)) = (loopsIn (codeOf Try.f15)).map some := by kernel_rfl
theorem hf : Try.prog.funcs[15]? = some Try.f15 := by kernel_rfl
theorem hb : Try.f15.body = some (codeOf Try.f15) := by kernel_rfl
theorem hn : (Try.f15.name == "runtime.NumGoroutine") = false := by kernel_rfl
theorem sound (k : Nat) : Sound Try.prog 15 (entry k) := func_sound (E := env k) (by kernel_rfl) (by kernel_rfl) (by kernel_rfl) tbl_nil hf hb hn (fit k) (loops_all lps) (loops k) (eq k)
end laws_toInt64S

namespace laws_eqInt64S
def entry (k : Nat) : Entry := ⟨[.ro (.sl 2 (.int .i64)), .ro (.sl 2 (.int .i64))], [.own .bool], fun (a0, (a1, _)) => f k a0 a1⟩
def env (k : Nat) : Env := ⟨Try.prog, 26, AM.look none [], AM.look none [(4, some ⟨[(0, .asis), (1, .asis), (5, .asis)], [(4, .asis)]⟩)]⟩
abbrev R := Res [.own .bool] × Outs [.ro (.sl 2 (.int .i64)), .ro (.sl 2 (.int .i64))]
def sh4 : Shape := ⟨[(0, .val (.sl 2 (.int .i64))), (1, .val (.sl 2 (.int .i64))), (5, .val (.int .i64))], [], 0, []⟩
def osh4kx0 : Shape := ⟨[(4, .undef)], [], 0, []⟩
def osh4kr : Shape := ⟨[(4, .val .bool)], [], 0, []⟩
def un4 : (List Int) × (List Int) × Int → sh4.V := fun (x0, x1, x5) => ((x0, (x1, (x5, ()))), ())
def fl4 : sh4.V → (List Int) × (List Int) × Int := fun ((x0, (x1, (x5, _))), _) => (x0, x1, x5)
def L (k : Nat) (q : Nat) (s : St) (K : AExit → St → Option R) : Option R := bif Nat.beq q 4 then (match sh4.dec s with | some v => l4 (R := R) k k (fl4 v) (fun (_ : Unit) => K (.exit 0) (osh4kx0.enc (((), ()), ()))) (fun x4 => K .ret (osh4kr.enc ((x4, ()), ()))) | none => none) else (none)
theorem step4 (k n : Nat) (K : AExit → St → Option R) : ∀ v, aloop (aexec (env k) (L k) ((findLoop 4 (codeOf Try.f18)).getD .skip)) (normSt [(0, .asis), (1, .asis), (5, .asis)]) (normSt [(4, .asis)]) K (n + 1) (sh4.enc (un4 v)) = s4 (R := R) k (fun w => aloop (aexec (env k) (L k) ((findLoop 4 (codeOf Try.f18)).getD .skip)) (normSt [(0, .asis), (1, .asis), (5, .asis)]) (normSt [(4, .asis)]) K n (sh4.enc (un4 w))) (fun (_ : Unit) => K (.exit 0) (osh4kx0.enc (((), ()), ()))) (fun x4 => K .ret (osh4kr.enc ((x4, ()), ()))) v := by intro v; kernel_rfl
theorem eq (k : Nat) : ∀ a, aexec (env k) (L k) (codeOf Try.f18) (begSt [.ro (.sl 2 (.int .i64)), .ro (.sl 2 (.int .i64))] a) (finK (env k) Try.f18 [.ro (.sl 2 (.int .i64)), .ro (.sl 2 (.int .i64))] [.own .bool]) = (entry k).fn a := by intro a; kernel_rfl
theorem run4 (k : Nat) (K : AExit → St → Option R) : ∀ n v, aloop (aexec (env k) (L k) ((findLoop 4 (codeOf Try.f18)).getD .skip)) (normSt [(0, .asis), (1, .asis), (5, .asis)]) (normSt [(4, .asis)]) K n (sh4.enc (un4 v)) = l4 (R := R) k n v (fun (_ : Unit) => K (.exit 0) (osh4kx0.enc (((), ()), ()))) (fun x4 => K .ret (osh4kr.enc ((x4, ()), ()))) := loop_eq (fun n v => aloop (aexec (env k) (L k) ((findLoop 4 (codeOf Try.f18)).getD .skip)) (normSt [(0, .asis), (1, .asis), (5, .asis)]) (normSt [(4, .asis)]) K n (sh4.enc (un4 v))) (fun n v => l4 (R := R) k n v (fun (_ : Unit) => K (.exit 0) (osh4kx0.enc (((), ()), ()))) (fun x4 => K .ret (osh4kr.enc ((x4, ()), ())))) (fun X v => s4 (R := R) k X (fun (_ : Unit) => K (.exit 0) (osh4kx0.enc (((), ()), ()))) (fun x4 => K .ret (osh4kr.enc ((x4, ()), ()))) v) (fun _ => rfl) (fun n v => step4 k n K v) (fun n v => rfl)
theorem loops (k : Nat) : LoopsOk (env k) (L k) (codeOf Try.f18) := by
  intro c an hc han s K r h
  unfold L at h
  by_cases q4 : firstRegion c = 4
  · have h1 := key_eq q4 h
    rw [q4] at hc han
    have e2 : an = ⟨[(0, .asis), (1, .asis), (5, .asis)], [(4, .asis)]⟩ := (Option.some.inj (show some _ = some an from han)).symm
    have e1 : c = (findLoop 4 (codeOf Try.f18)).getD .skip := by rw [hc]; rfl
    cases hd : sh4.dec s with
    | none => rw [hd] at h1; cases h1
    | some v =>
      rw [hd] at h1
      refine ⟨k, ?_⟩
      rw [e1, e2, Shape.dec_enc _ _ _ hd]
      exact (run4 k K k (fl4 v)).trans h1
  have h := not_key q4 h
  cases h
theorem fit (k : Nat) : codeFit (env k) (codeOf Try.f18) = true := by kernel_rfl
theorem lps : (loopsIn (codeOf Try.f18)).map (fun d => findLoop (firstRegion d) (codeOf Try.f18)) = (loopsIn (codeOf Try.f18)).map some := by kernel_rfl
theorem hf : Try.prog.funcs[18]? = some Try.f18 := by kernel_rfl
theorem hb : Try.f18.body = some (codeOf Try.f18) := by kernel_rfl
theorem hn : (Try.f18.name == "runtime.NumGoroutine") = false := by kernel_rfl
theorem sound (k : Nat) : Sound Try.prog 18 (entry k) := func_sound (E := env k) (by kernel_rfl) (by kernel_rfl) (by kernel_rfl) tbl_nil hf hb hn (fit k) (loops_all lps) (loops k) (eq k)
end laws_eqInt64S

namespace laws_markInt64S
def entry (k : Nat) : Entry := ⟨[.io 2 (.int .i64), .ro (.int .i64)], [.own (.int .i64)], fun (a0, (a1, _)) => f k a0 a1⟩
def env (k : Nat) : Env := ⟨Try.prog, 19, AM.look none [], AM.look none [(2, some ⟨[(0, .asis), (1, .asis), (5, .asis)], [(1, .asis)]⟩)]⟩
abbrev R := Res [.own (.int .i64)] × Outs [.io 2 (.int .i64), .ro (.int .i64)]
def sh2 : Shape := ⟨[(0, .ref 0), (1, .val (.int .i64)), (5, .val (.int .i64))], [(0, .row 2 (.int .i64))], 1, [0]⟩
def osh2kx0 : Shape := ⟨[(1, .val (.int .i64))], [(0, .row 2 (.int .i64))], 1, [0]⟩
def un2 : Int × Int × (List Int) → sh2.V := fun (x1, x5, y0) => (((), (x1, (x5, ()))), (y0, ()))
def fl2 : sh2.V → Int × Int × (List Int) := fun ((_, (x1, (x5, _))), (y0, _)) => (x1, x5, y0)
def L (k : Nat) (q : Nat) (s : St) (K : AExit → St → Option R) : Option R := bif Nat.beq q 2 then (match sh2.dec s with | some v => l2 (R := R) k k (fl2 v) (fun (x1, y0) => K (.exit 0) (osh2kx0.enc ((x1, ()), (y0, ())))) | none => none) else (none)
theorem step2 (k n : Nat) (K : AExit → St → Option R) : ∀ v, aloop (aexec (env k) (L k) ((findLoop 2 (codeOf Try.f22)).getD .skip)) (normSt [(0, .asis), (1, .asis), (5, .asis)]) (normSt [(1, .asis)]) K (n + 1) (sh2.enc (un2 v)) = s2 (R := R) k (fun w => aloop (aexec (env k) (L k) ((findLoop 2 (codeOf Try.f22)).getD .skip)) (normSt [(0, .asis), (1, .asis), (5, .asis)]) (normSt [(1, .asis)]) K n (sh2.enc (un2 w))) (fun (x1, y0) => K (.exit 0) (osh2kx0.enc ((x1, ()), (y0, ())))) v := by intro v; kernel_rfl
theorem eq (k : Nat) : ∀ a, aexec (env k) (L k) (codeOf Try.f22) (begSt [.io 2 (.int .i64), .ro (.int .i64)] a) (finK (env k) Try.f22 [.io 2 (.int .i64), .ro (.int .i64)] [.own (.int .i64)]) = (entry k).fn a := by intro a; kernel_rfl
theorem run2 (k : Nat) (K : AExit → St → Option R) : ∀ n v, aloop (aexec (env k) (L k) ((findLoop 2 (codeOf Try.f22)).getD .skip)) (normSt [(0, .asis), (1, .asis), (5, .asis)]) (normSt [(1, .asis)]) K n (sh2.enc (un2 v)) = l2 (R := R) k n v (fun (x1, y0) => K (.exit 0) (osh2kx0.enc ((x1, ()), (y0, ())))) := loop_eq (fun n v => aloop (aexec (env k) (L k) ((findLoop 2 (codeOf Try.f22)).getD .skip)) (normSt [(0, .asis), (1, .asis), (5, .asis)]) (normSt [(1, .asis)]) K n (sh2.enc (un2 v))) (fun n v => l2 (R := R) k n v (fun (x1, y0) => K (.exit 0) (osh2kx0.enc ((x1, ()), (y0, ()))))) (fun X v => s2 (R := R) k X (fun (x1, y0) => K (.exit 0) (osh2kx0.enc ((x1, ()), (y0, ())))) v) (fun _ => rfl) (fun n v => step2 k n K v) (fun n v => rfl)
theorem loops (k : Nat) : LoopsOk (env k) (L k) (codeOf Try.f22) := by
  intro c an hc han s K r h
  unfold L at h
  by_cases q2 : firstRegion c = 2
  · have h1 := key_eq q2 h
    rw [q2] at hc han
    have e2 : an = ⟨[(0, .asis), (1, .asis), (5, .asis)], [(1, .asis)]⟩ := (Option.some.inj (show some _ = some an from han)).symm
    have e1 : c = (findLoop 2 (codeOf Try.f22)).getD .skip := by rw [hc]; rfl
    cases hd : sh2.dec s with
    | none => rw [hd] at h1; cases h1
    | some v =>
      rw [hd] at h1
      refine ⟨k, ?_⟩
      rw [e1, e2, Shape.dec_enc _ _ _ hd]
      exact (run2 k K k (fl2 v)).trans h1
  have h := not_key q2 h
  cases h
theorem fit (k : Nat) : codeFit (env k) (codeOf Try.f22) = true := by kernel_rfl
theorem lps : (loopsIn (codeOf Try.f22)).map (fun d => findLoop (firstRegion d) (codeOf Try.f22)) = (loopsIn (codeOf Try.f22)).map some := by kernel_rfl
theorem hf : Try.prog.funcs[22]? = some Try.f22 := by kernel_rfl
theorem hb : Try.f22.body = some (codeOf Try.f22) := by kernel_rfl
theorem hn : (Try.f22.name == "runtime.NumGoroutine") = false := by kernel_rfl
theorem sound (k : Nat) : Sound Try.prog 22 (entry k) := func_sound (E := env k) (by kernel_rfl) (by kernel_rfl) (by kernel_rfl) tbl_nil hf hb hn (fit k) (loops_all lps) (loops k) (eq k)
end laws_markInt64S

namespace laws_heldInt64S
def entry (k : Nat) : Entry := ⟨[.ro (.sl 2 (.int .i64)), .ro (.int .i64)], [.own (.int .i64)], fun (a0, (a1, _)) => f k a0 a1⟩
def env (k : Nat) : Env := ⟨Try.prog, 21, AM.look none [], AM.look none [(2, some ⟨[(0, .asis), (1, .asis), (5, .asis)], [(1, .asis), (4, .asis)]⟩)]⟩
abbrev R := Res [.own (.int .i64)] × Outs [.ro (.sl 2 (.int .i64)), .ro (.int .i64)]
def sh2 : Shape := ⟨[(0, .val (.sl 2 (.int .i64))), (1, .val (.int .i64)), (5, .val (.int .i64))], [], 0, []⟩
def osh2kx0 : Shape := ⟨[(1, .val (.int .i64)), (4, .undef)], [], 0, []⟩
def osh2kr : Shape := ⟨[(1, .val (.int .i64)), (4, .val (.int .i64))], [], 0, []⟩
def un2 : (List Int) × Int × Int → sh2.V := fun (x0, x1, x5) => ((x0, (x1, (x5, ()))), ())
def fl2 : sh2.V → (List Int) × Int × Int := fun ((x0, (x1, (x5, _))), _) => (x0, x1, x5)
def L (k : Nat) (q : Nat) (s : St) (K : AExit → St → Option R) : Option R := bif Nat.beq q 2 then (match sh2.dec s with | some v => l2 (R := R) k k (fl2 v) (fun x1 => K (.exit 0) (osh2kx0.enc ((x1, ((), ())), ()))) (fun (x1, x4) => K .ret (osh2kr.enc ((x1, (x4, ())), ()))) | none => none) else (none)
theorem step2 (k n : Nat) (K : AExit → St → Option R) : ∀ v, aloop (aexec (env k) (L k) ((findLoop 2 (codeOf Try.f23)).getD .skip)) (normSt [(0, .asis), (1, .asis), (5, .asis)]) (normSt [(1, .asis), (4, .asis)]) K (n + 1) (sh2.enc (un2 v)) = s2 (R := R) k (fun w => aloop (aexec (env k) (L k) ((findLoop 2 (codeOf Try.f23)).getD .skip)) (normSt [(0, .asis), (1, .asis), (5, .asis)]) (normSt [(1, .asis), (4, .asis)]) K n (sh2.enc (un2 w))) (fun x1 => K (.exit 0) (osh2kx0.enc ((x1, ((), ())), ()))) (fun (x1, x4) => K .ret (osh2kr.enc ((x1, (x4, ())), ()))) v := by intro v; kernel_rfl
theorem eq (k : Nat) : ∀ a, aexec (env k) (L k) (codeOf Try.f23) (begSt [.ro (.sl 2 (.int .i64)), .ro (.int .i64)] a) (finK (env k) Try.f23 [.ro (.sl 2 (.int .i64)), .ro (.int .i64)] [.own (.int .i64)]) = (entry k).fn a := by intro a; kernel_rfl
theorem run2 (k : Nat) (K : AExit → St → Option R) : ∀ n v, aloop (aexec (env k) (L k) ((findLoop 2 (codeOf Try.f23)).getD .skip)) (normSt [(0, .asis), (1, .asis), (5, .asis)]) (normSt [(1, .asis), (4, .asis)]) K n (sh2.enc (un2 v)) = l2 (R := R) k n v (fun x1 => K (.exit 0) (osh2kx0.enc ((x1, ((), ())), ()))) (fun (x1, x4) => K .ret (osh2kr.enc ((x1, (x4, ())), ()))) := loop_eq (fun n v => aloop (aexec (env k) (L k) ((findLoop 2 (codeOf Try.f23)).getD .skip)) (normSt [(0, .asis), (1, .asis), (5, .asis)]) (normSt [(1, .asis), (4, .asis)]) K n (sh2.enc (un2 v))) (fun n v => l2 (R := R) k n v (fun x1 => K (.exit 0) (osh2kx0.enc ((x1, ((), ())), ()))) (fun (x1, x4) => K .ret (osh2kr.enc ((x1, (x4, ())), ())))) (fun X v => s2 (R := R) k X (fun x1 => K (.exit 0) (osh2kx0.enc ((x1, ((), ())), ()))) (fun (x1, x4) => K .ret (osh2kr.enc ((x1, (x4, ())), ()))) v) (fun _ => rfl) (fun n v => step2 k n K v) (fun n v => rfl)
theorem loops (k : Nat) : LoopsOk (env k) (L k) (codeOf Try.f23) := by
  intro c an hc han s K r h
  unfold L at h
  by_cases q2 : firstRegion c = 2
  · have h1 := key_eq q2 h
    rw [q2] at hc han
    have e2 : an = ⟨[(0, .asis), (1, .asis), (5, .asis)], [(1, .asis), (4, .asis)]⟩ := (Option.some.inj (show some _ = some an from han)).symm
    have e1 : c = (findLoop 2 (codeOf Try.f23)).getD .skip := by rw [hc]; rfl
    cases hd : sh2.dec s with
    | none => rw [hd] at h1; cases h1
    | some v =>
      rw [hd] at h1
      refine ⟨k, ?_⟩
      rw [e1, e2, Shape.dec_enc _ _ _ hd]
      exact (run2 k K k (fl2 v)).trans h1
  have h := not_key q2 h
  cases h
theorem fit (k : Nat) : codeFit (env k) (codeOf Try.f23) = true := by kernel_rfl
theorem lps : (loopsIn (codeOf Try.f23)).map (fun d => findLoop (firstRegion d) (codeOf Try.f23)) = (loopsIn (codeOf Try.f23)).map some := by kernel_rfl
theorem hf : Try.prog.funcs[23]? = some Try.f23 := by kernel_rfl
theorem hb : Try.f23.body = some (codeOf Try.f23) := by kernel_rfl
theorem hn : (Try.f23.name == "runtime.NumGoroutine") = false := by kernel_rfl
theorem sound (k : Nat) : Sound Try.prog 23 (entry k) := func_sound (E := env k) (by kernel_rfl) (by kernel_rfl) (by kernel_rfl) tbl_nil hf hb hn (fit k) (loops_all lps) (loops k) (eq k)
end laws_heldInt64S

namespace spec_l01In
def entry (k : Nat) : Entry := ⟨[.ro (.int .i64), .ro (.int .i64), .ro (.int .i64)], [.own .bool], fun (a0, (a1, (a2, _))) => f k a0 a1 a2⟩
def env (k : Nat) : Env := ⟨Try.prog, 15, AM.look none [], AM.look none []⟩
abbrev R := Res [.own .bool] × Outs [.ro (.int .i64), .ro (.int .i64), .ro (.int .i64)]
def L (k : Nat) (q : Nat) (s : St) (K : AExit → St → Option R) : Option R := none
theorem eq (k : Nat) : ∀ a, aexec (env k) (L k) (codeOf Try.f30) (begSt [.ro (.int .i64), .ro (.int .i64), .ro (.int .i64)] a) (finK (env k) Try.f30 [.ro (.int .i64), .ro (.int .i64), .ro (.int .i64)] [.own .bool]) = (entry k).fn a := by intro a; kernel_rfl
theorem loops (k : Nat) : LoopsOk (env k) (L k) (codeOf Try.f30) := by
  intro c an hc han s K r h
  unfold L at h
  cases h
theorem fit (k : Nat) : codeFit (env k) (codeOf Try.f30) = true := by kernel_rfl
theorem lps : (loopsIn (codeOf Try.f30)).map (fun d => findLoop (firstRegion d) (codeOf Try.f30)) = (loopsIn (codeOf Try.f30)).map some := by kernel_rfl
theorem hf : Try.prog.funcs[30]? = some Try.f30 := by kernel_rfl
theorem hb : Try.f30.body = some (codeOf Try.f30) := by kernel_rfl
theorem hn : (Try.f30.name == "runtime.NumGoroutine") = false := by kernel_rfl
theorem sound (k : Nat) : Sound Try.prog 30 (entry k) := func_sound (E := env k) (by kernel_rfl) (by kernel_rfl) (by kernel_rfl) tbl_nil hf hb hn (fit k) (loops_all lps) (loops k) (eq k)
end spec_l01In

namespace spec_l13Seats
def entry (k : Nat) : Entry := ⟨[.ro (.int .i64)], [.own .bool], fun (a0, _) => f k a0⟩
def env (k : Nat) : Env := ⟨Try.prog, 5, AM.look none [(30, some (spec_l01In.entry k))], AM.look none []⟩
abbrev R := Res [.own .bool] × Outs [.ro (.int .i64)]
def L (k : Nat) (q : Nat) (s : St) (K : AExit → St → Option R) : Option R := none
theorem eq (k : Nat) : ∀ a, aexec (env k) (L k) (codeOf Try.f45) (begSt [.ro (.int .i64)] a) (finK (env k) Try.f45 [.ro (.int .i64)] [.own .bool]) = (entry k).fn a := by intro a; kernel_rfl
theorem loops (k : Nat) : LoopsOk (env k) (L k) (codeOf Try.f45) := by
  intro c an hc han s K r h
  unfold L at h
  cases h
theorem fit (k : Nat) : codeFit (env k) (codeOf Try.f45) = true := by kernel_rfl
theorem lps : (loopsIn (codeOf Try.f45)).map (fun d => findLoop (firstRegion d) (codeOf Try.f45)) = (loopsIn (codeOf Try.f45)).map some := by kernel_rfl
theorem hf : Try.prog.funcs[45]? = some Try.f45 := by kernel_rfl
theorem hb : Try.f45.body = some (codeOf Try.f45) := by kernel_rfl
theorem hn : (Try.f45.name == "runtime.NumGoroutine") = false := by kernel_rfl
theorem sound (k : Nat) : Sound Try.prog 45 (entry k) := func_sound (E := env k) (by kernel_rfl) (by kernel_rfl) (by kernel_rfl) (tbl_cons (spec_l01In.sound k) tbl_nil) hf hb hn (fit k) (loops_all lps) (loops k) (eq k)
end spec_l13Seats

namespace spec_l01Rises
def entry (k : Nat) : Entry := ⟨[.ro (.sl 2 (.int .i64)), .ro (.int .i64)], [.own .bool], fun (a0, (a1, _)) => f k a0 a1⟩
def env (k : Nat) : Env := ⟨Try.prog, 36, AM.look none [(30, some (spec_l01In.entry k))], AM.look none [(2, some ⟨[(0, .asis), (1, .asis), (5, .asis)], [(4, .asis)]⟩)]⟩
abbrev R := Res [.own .bool] × Outs [.ro (.sl 2 (.int .i64)), .ro (.int .i64)]
def sh2 : Shape := ⟨[(0, .val (.sl 2 (.int .i64))), (1, .val (.int .i64)), (5, .val (.int .i64))], [], 0, []⟩
def osh2kx0 : Shape := ⟨[(4, .undef)], [], 0, []⟩
def osh2kr : Shape := ⟨[(4, .val .bool)], [], 0, []⟩
def un2 : (List Int) × Int × Int → sh2.V := fun (x0, x1, x5) => ((x0, (x1, (x5, ()))), ())
def fl2 : sh2.V → (List Int) × Int × Int := fun ((x0, (x1, (x5, _))), _) => (x0, x1, x5)
def L (k : Nat) (q : Nat) (s : St) (K : AExit → St → Option R) : Option R := bif Nat.beq q 2 then (match sh2.dec s with | some v => l2 (R := R) k k (fl2 v) (fun (_ : Unit) => K (.exit 0) (osh2kx0.enc (((), ()), ()))) (fun x4 => K .ret (osh2kr.enc ((x4, ()), ()))) | none => none) else (none)
theorem step2 (k n : Nat) (K : AExit → St → Option R) : ∀ v, aloop (aexec (env k) (L k) ((findLoop 2 (codeOf Try.f59)).getD .skip)) (normSt [(0, .asis), (1, .asis), (5, .asis)]) (normSt [(4, .asis)]) K (n + 1) (sh2.enc (un2 v)) = s2 (R := R) k (fun w => aloop (aexec (env k) (L k) ((findLoop 2 (codeOf Try.f59)).getD .skip)) (normSt [(0, .asis), (1, .asis), (5, .asis)]) (normSt [(4, .asis)]) K n (sh2.enc (un2 w))) (fun (_ : Unit) => K (.exit 0) (osh2kx0.enc (((), ()), ()))) (fun x4 => K .ret (osh2kr.enc ((x4, ()), ()))) v := by intro v; kernel_rfl
theorem eq (k : Nat) : ∀ a, aexec (env k) (L k) (codeOf Try.f59) (begSt [.ro (.sl 2 (.int .i64)), .ro (.int .i64)] a) (finK (env k) Try.f59 [.ro (.sl 2 (.int .i64)), .ro (.int .i64)] [.own .bool]) = (entry k).fn a := by intro a; kernel_rfl
theorem run2 (k : Nat) (K : AExit → St → Option R) : ∀ n v, aloop (aexec (env k) (L k) ((findLoop 2 (codeOf Try.f59)).getD .skip)) (normSt [(0, .asis), (1, .asis), (5, .asis)]) (normSt [(4, .asis)]) K n (sh2.enc (un2 v)) = l2 (R := R) k n v (fun (_ : Unit) => K (.exit 0) (osh2kx0.enc (((), ()), ()))) (fun x4 => K .ret (osh2kr.enc ((x4, ()), ()))) := loop_eq (fun n v => aloop (aexec (env k) (L k) ((findLoop 2 (codeOf Try.f59)).getD .skip)) (normSt [(0, .asis), (1, .asis), (5, .asis)]) (normSt [(4, .asis)]) K n (sh2.enc (un2 v))) (fun n v => l2 (R := R) k n v (fun (_ : Unit) => K (.exit 0) (osh2kx0.enc (((), ()), ()))) (fun x4 => K .ret (osh2kr.enc ((x4, ()), ())))) (fun X v => s2 (R := R) k X (fun (_ : Unit) => K (.exit 0) (osh2kx0.enc (((), ()), ()))) (fun x4 => K .ret (osh2kr.enc ((x4, ()), ()))) v) (fun _ => rfl) (fun n v => step2 k n K v) (fun n v => rfl)
theorem loops (k : Nat) : LoopsOk (env k) (L k) (codeOf Try.f59) := by
  intro c an hc han s K r h
  unfold L at h
  by_cases q2 : firstRegion c = 2
  · have h1 := key_eq q2 h
    rw [q2] at hc han
    have e2 : an = ⟨[(0, .asis), (1, .asis), (5, .asis)], [(4, .asis)]⟩ := (Option.some.inj (show some _ = some an from han)).symm
    have e1 : c = (findLoop 2 (codeOf Try.f59)).getD .skip := by rw [hc]; rfl
    cases hd : sh2.dec s with
    | none => rw [hd] at h1; cases h1
    | some v =>
      rw [hd] at h1
      refine ⟨k, ?_⟩
      rw [e1, e2, Shape.dec_enc _ _ _ hd]
      exact (run2 k K k (fl2 v)).trans h1
  have h := not_key q2 h
  cases h
theorem fit (k : Nat) : codeFit (env k) (codeOf Try.f59) = true := by kernel_rfl
theorem lps : (loopsIn (codeOf Try.f59)).map (fun d => findLoop (firstRegion d) (codeOf Try.f59)) = (loopsIn (codeOf Try.f59)).map some := by kernel_rfl
theorem hf : Try.prog.funcs[59]? = some Try.f59 := by kernel_rfl
theorem hb : Try.f59.body = some (codeOf Try.f59) := by kernel_rfl
theorem hn : (Try.f59.name == "runtime.NumGoroutine") = false := by kernel_rfl
theorem sound (k : Nat) : Sound Try.prog 59 (entry k) := func_sound (E := env k) (by kernel_rfl) (by kernel_rfl) (by kernel_rfl) (tbl_cons (spec_l01In.sound k) tbl_nil) hf hb hn (fit k) (loops_all lps) (loops k) (eq k)
end spec_l01Rises

namespace spec_l13Winners
def entry (k : Nat) : Entry := ⟨[.ro (.sl 2 (.int .i64)), .ro (.int .i64)], [.own .bool], fun (a0, (a1, _)) => f k a0 a1⟩
def env (k : Nat) : Env := ⟨Try.prog, 13, AM.look none [(59, some (spec_l01Rises.entry k))], AM.look none []⟩
abbrev R := Res [.own .bool] × Outs [.ro (.sl 2 (.int .i64)), .ro (.int .i64)]
def L (k : Nat) (q : Nat) (s : St) (K : AExit → St → Option R) : Option R := none
theorem eq (k : Nat) : ∀ a, aexec (env k) (L k) (codeOf Try.f46) (begSt [.ro (.sl 2 (.int .i64)), .ro (.int .i64)] a) (finK (env k) Try.f46 [.ro (.sl 2 (.int .i64)), .ro (.int .i64)] [.own .bool]) = (entry k).fn a := by intro a; kernel_rfl
theorem loops (k : Nat) : LoopsOk (env k) (L k) (codeOf Try.f46) := by
  intro c an hc han s K r h
  unfold L at h
  cases h
theorem fit (k : Nat) : codeFit (env k) (codeOf Try.f46) = true := by kernel_rfl
theorem lps : (loopsIn (codeOf Try.f46)).map (fun d => findLoop (firstRegion d) (codeOf Try.f46)) = (loopsIn (codeOf Try.f46)).map some := by kernel_rfl
theorem hf : Try.prog.funcs[46]? = some Try.f46 := by kernel_rfl
theorem hb : Try.f46.body = some (codeOf Try.f46) := by kernel_rfl
theorem hn : (Try.f46.name == "runtime.NumGoroutine") = false := by kernel_rfl
theorem sound (k : Nat) : Sound Try.prog 46 (entry k) := func_sound (E := env k) (by kernel_rfl) (by kernel_rfl) (by kernel_rfl) (tbl_cons (spec_l01Rises.sound k) tbl_nil) hf hb hn (fit k) (loops_all lps) (loops k) (eq k)
end spec_l13Winners

namespace spec_l13Amount
def entry (k : Nat) : Entry := ⟨[.ro (.int .i64)], [.own .bool], fun (a0, _) => f k a0⟩
def env (k : Nat) : Env := ⟨Try.prog, 5, AM.look none [(30, some (spec_l01In.entry k))], AM.look none []⟩
abbrev R := Res [.own .bool] × Outs [.ro (.int .i64)]
def L (k : Nat) (q : Nat) (s : St) (K : AExit → St → Option R) : Option R := none
theorem eq (k : Nat) : ∀ a, aexec (env k) (L k) (codeOf Try.f47) (begSt [.ro (.int .i64)] a) (finK (env k) Try.f47 [.ro (.int .i64)] [.own .bool]) = (entry k).fn a := by intro a; kernel_rfl
theorem loops (k : Nat) : LoopsOk (env k) (L k) (codeOf Try.f47) := by
  intro c an hc han s K r h
  unfold L at h
  cases h
theorem fit (k : Nat) : codeFit (env k) (codeOf Try.f47) = true := by kernel_rfl
theorem lps : (loopsIn (codeOf Try.f47)).map (fun d => findLoop (firstRegion d) (codeOf Try.f47)) = (loopsIn (codeOf Try.f47)).map some := by kernel_rfl
theorem hf : Try.prog.funcs[47]? = some Try.f47 := by kernel_rfl
theorem hb : Try.f47.body = some (codeOf Try.f47) := by kernel_rfl
theorem hn : (Try.f47.name == "runtime.NumGoroutine") = false := by kernel_rfl
theorem sound (k : Nat) : Sound Try.prog 47 (entry k) := func_sound (E := env k) (by kernel_rfl) (by kernel_rfl) (by kernel_rfl) (tbl_cons (spec_l01In.sound k) tbl_nil) hf hb hn (fit k) (loops_all lps) (loops k) (eq k)
end spec_l13Amount

namespace spec_l01Has
def entry (k : Nat) : Entry := ⟨[.ro (.sl 2 (.int .i64)), .ro (.int .i64)], [.own .bool], fun (a0, (a1, _)) => f k a0 a1⟩
def env (k : Nat) : Env := ⟨Try.prog, 18, AM.look none [], AM.look none [(2, some ⟨[(0, .asis), (1, .asis), (5, .asis)], [(4, .asis)]⟩)]⟩
abbrev R := Res [.own .bool] × Outs [.ro (.sl 2 (.int .i64)), .ro (.int .i64)]
def sh2 : Shape := ⟨[(0, .val (.sl 2 (.int .i64))), (1, .val (.int .i64)), (5, .val (.int .i64))], [], 0, []⟩
def osh2kx0 : Shape := ⟨[(4, .undef)], [], 0, []⟩
def osh2kr : Shape := ⟨[(4, .val .bool)], [], 0, []⟩
def un2 : (List Int) × Int × Int → sh2.V := fun (x0, x1, x5) => ((x0, (x1, (x5, ()))), ())
def fl2 : sh2.V → (List Int) × Int × Int := fun ((x0, (x1, (x5, _))), _) => (x0, x1, x5)
def L (k : Nat) (q : Nat) (s : St) (K : AExit → St → Option R) : Option R := bif Nat.beq q 2 then (match sh2.dec s with | some v => l2 (R := R) k k (fl2 v) (fun (_ : Unit) => K (.exit 0) (osh2kx0.enc (((), ()), ()))) (fun x4 => K .ret (osh2kr.enc ((x4, ()), ()))) | none => none) else (none)
theorem step2 (k n : Nat) (K : AExit → St → Option R) : ∀ v, aloop (aexec (env k) (L k) ((findLoop 2 (codeOf Try.f60)).getD .skip)) (normSt [(0, .asis), (1, .asis), (5, .asis)]) (normSt [(4, .asis)]) K (n + 1) (sh2.enc (un2 v)) = s2 (R := R) k (fun w => aloop (aexec (env k) (L k) ((findLoop 2 (codeOf Try.f60)).getD .skip)) (normSt [(0, .asis), (1, .asis), (5, .asis)]) (normSt [(4, .asis)]) K n (sh2.enc (un2 w))) (fun (_ : Unit) => K (.exit 0) (osh2kx0.enc (((), ()), ()))) (fun x4 => K .ret (osh2kr.enc ((x4, ()), ()))) v := by intro v; kernel_rfl
theorem eq (k : Nat) : ∀ a, aexec (env k) (L k) (codeOf Try.f60) (begSt [.ro (.sl 2 (.int .i64)), .ro (.int .i64)] a) (finK (env k) Try.f60 [.ro (.sl 2 (.int .i64)), .ro (.int .i64)] [.own .bool]) = (entry k).fn a := by intro a; kernel_rfl
theorem run2 (k : Nat) (K : AExit → St → Option R) : ∀ n v, aloop (aexec (env k) (L k) ((findLoop 2 (codeOf Try.f60)).getD .skip)) (normSt [(0, .asis), (1, .asis), (5, .asis)]) (normSt [(4, .asis)]) K n (sh2.enc (un2 v)) = l2 (R := R) k n v (fun (_ : Unit) => K (.exit 0) (osh2kx0.enc (((), ()), ()))) (fun x4 => K .ret (osh2kr.enc ((x4, ()), ()))) := loop_eq (fun n v => aloop (aexec (env k) (L k) ((findLoop 2 (codeOf Try.f60)).getD .skip)) (normSt [(0, .asis), (1, .asis), (5, .asis)]) (normSt [(4, .asis)]) K n (sh2.enc (un2 v))) (fun n v => l2 (R := R) k n v (fun (_ : Unit) => K (.exit 0) (osh2kx0.enc (((), ()), ()))) (fun x4 => K .ret (osh2kr.enc ((x4, ()), ())))) (fun X v => s2 (R := R) k X (fun (_ : Unit) => K (.exit 0) (osh2kx0.enc (((), ()), ()))) (fun x4 => K .ret (osh2kr.enc ((x4, ()), ()))) v) (fun _ => rfl) (fun n v => step2 k n K v) (fun n v => rfl)
theorem loops (k : Nat) : LoopsOk (env k) (L k) (codeOf Try.f60) := by
  intro c an hc han s K r h
  unfold L at h
  by_cases q2 : firstRegion c = 2
  · have h1 := key_eq q2 h
    rw [q2] at hc han
    have e2 : an = ⟨[(0, .asis), (1, .asis), (5, .asis)], [(4, .asis)]⟩ := (Option.some.inj (show some _ = some an from han)).symm
    have e1 : c = (findLoop 2 (codeOf Try.f60)).getD .skip := by rw [hc]; rfl
    cases hd : sh2.dec s with
    | none => rw [hd] at h1; cases h1
    | some v =>
      rw [hd] at h1
      refine ⟨k, ?_⟩
      rw [e1, e2, Shape.dec_enc _ _ _ hd]
      exact (run2 k K k (fl2 v)).trans h1
  have h := not_key q2 h
  cases h
theorem fit (k : Nat) : codeFit (env k) (codeOf Try.f60) = true := by kernel_rfl
theorem lps : (loopsIn (codeOf Try.f60)).map (fun d => findLoop (firstRegion d) (codeOf Try.f60)) = (loopsIn (codeOf Try.f60)).map some := by kernel_rfl
theorem hf : Try.prog.funcs[60]? = some Try.f60 := by kernel_rfl
theorem hb : Try.f60.body = some (codeOf Try.f60) := by kernel_rfl
theorem hn : (Try.f60.name == "runtime.NumGoroutine") = false := by kernel_rfl
theorem sound (k : Nat) : Sound Try.prog 60 (entry k) := func_sound (E := env k) (by kernel_rfl) (by kernel_rfl) (by kernel_rfl) tbl_nil hf hb hn (fit k) (loops_all lps) (loops k) (eq k)
end spec_l01Has

namespace spec_l13Split
def entry (k : Nat) : Entry := ⟨[.ro (.int .i64), .ro (.sl 2 (.int .i64)), .ro (.int .i64), .ro (.int .i64)], [.own (.sl 2 (.int .i64))], fun (a0, (a1, (a2, (a3, _)))) => f k a0 a1 a2 a3⟩
def env (k : Nat) : Env := ⟨Try.prog, 51, AM.look none [(60, some (spec_l01Has.entry k))], AM.look none [(5, some ⟨[(0, .asis), (1, .asis), (2, .asis), (3, .asis), (9, .asis), (10, .asis), (11, .asis), (12, .asis)], [(9, .asis)]⟩)]⟩
abbrev R := Res [.own (.sl 2 (.int .i64))] × Outs [.ro (.int .i64), .ro (.sl 2 (.int .i64)), .ro (.int .i64), .ro (.int .i64)]
def sh5 : Shape := ⟨[(0, .val (.int .i64)), (1, .val (.sl 2 (.int .i64))), (2, .val (.int .i64)), (3, .val (.int .i64)), (9, .ref 0), (10, .val (.int .i64)), (11, .val (.int .i64)), (12, .val (.int .i64))], [(0, .row 2 (.int .i64))], 1, []⟩
def osh5kx0 : Shape := ⟨[(9, .ref 0)], [(0, .row 2 (.int .i64))], 1, []⟩
def un5 : Int × (List Int) × Int × Int × Int × Int × Int × (List Int) → sh5.V := fun (x0, x1, x2, x3, x10, x11, x12, y0) => ((x0, (x1, (x2, (x3, ((), (x10, (x11, (x12, ())))))))), (y0, ()))
def fl5 : sh5.V → Int × (List Int) × Int × Int × Int × Int × Int × (List Int) := fun ((x0, (x1, (x2, (x3, (_, (x10, (x11, (x12, _)))))))), (y0, _)) => (x0, x1, x2, x3, x10, x11, x12, y0)
def L (k : Nat) (q : Nat) (s : St) (K : AExit → St → Option R) : Option R := bif Nat.beq q 5 then (match sh5.dec s with | some v => l5 (R := R) k k (fl5 v) (fun y0 => K (.exit 0) (osh5kx0.enc (((), ()), (y0, ())))) | none => none) else (none)
theorem step5 (k n : Nat) (K : AExit → St → Option R) : ∀ v, aloop (aexec (env k) (L k) ((findLoop 5 (codeOf Try.f48)).getD .skip)) (normSt [(0, .asis), (1, .asis), (2, .asis), (3, .asis), (9, .asis), (10, .asis), (11, .asis), (12, .asis)]) (normSt [(9, .asis)]) K (n + 1) (sh5.enc (un5 v)) = s5 (R := R) k (fun w => aloop (aexec (env k) (L k) ((findLoop 5 (codeOf Try.f48)).getD .skip)) (normSt [(0, .asis), (1, .asis), (2, .asis), (3, .asis), (9, .asis), (10, .asis), (11, .asis), (12, .asis)]) (normSt [(9, .asis)]) K n (sh5.enc (un5 w))) (fun y0 => K (.exit 0) (osh5kx0.enc (((), ()), (y0, ())))) v := by intro v; kernel_rfl
theorem eq (k : Nat) : ∀ a, aexec (env k) (L k) (codeOf Try.f48) (begSt [.ro (.int .i64), .ro (.sl 2 (.int .i64)), .ro (.int .i64), .ro (.int .i64)] a) (finK (env k) Try.f48 [.ro (.int .i64), .ro (.sl 2 (.int .i64)), .ro (.int .i64), .ro (.int .i64)] [.own (.sl 2 (.int .i64))]) = (entry k).fn a := by intro a; kernel_rfl
theorem run5 (k : Nat) (K : AExit → St → Option R) : ∀ n v, aloop (aexec (env k) (L k) ((findLoop 5 (codeOf Try.f48)).getD .skip)) (normSt [(0, .asis), (1, .asis), (2, .asis), (3, .asis), (9, .asis), (10, .asis), (11, .asis), (12, .asis)]) (normSt [(9, .asis)]) K n (sh5.enc (un5 v)) = l5 (R := R) k n v (fun y0 => K (.exit 0) (osh5kx0.enc (((), ()), (y0, ())))) := loop_eq (fun n v => aloop (aexec (env k) (L k) ((findLoop 5 (codeOf Try.f48)).getD .skip)) (normSt [(0, .asis), (1, .asis), (2, .asis), (3, .asis), (9, .asis), (10, .asis), (11, .asis), (12, .asis)]) (normSt [(9, .asis)]) K n (sh5.enc (un5 v))) (fun n v => l5 (R := R) k n v (fun y0 => K (.exit 0) (osh5kx0.enc (((), ()), (y0, ()))))) (fun X v => s5 (R := R) k X (fun y0 => K (.exit 0) (osh5kx0.enc (((), ()), (y0, ())))) v) (fun _ => rfl) (fun n v => step5 k n K v) (fun n v => rfl)
theorem loops (k : Nat) : LoopsOk (env k) (L k) (codeOf Try.f48) := by
  intro c an hc han s K r h
  unfold L at h
  by_cases q5 : firstRegion c = 5
  · have h1 := key_eq q5 h
    rw [q5] at hc han
    have e2 : an = ⟨[(0, .asis), (1, .asis), (2, .asis), (3, .asis), (9, .asis), (10, .asis), (11, .asis), (12, .asis)], [(9, .asis)]⟩ := (Option.some.inj (show some _ = some an from han)).symm
    have e1 : c = (findLoop 5 (codeOf Try.f48)).getD .skip := by rw [hc]; rfl
    cases hd : sh5.dec s with
    | none => rw [hd] at h1; cases h1
    | some v =>
      rw [hd] at h1
      refine ⟨k, ?_⟩
      rw [e1, e2, Shape.dec_enc _ _ _ hd]
      exact (run5 k K k (fl5 v)).trans h1
  have h := not_key q5 h
  cases h
theorem fit (k : Nat) : codeFit (env k) (codeOf Try.f48) = true := by kernel_rfl
theorem lps : (loopsIn (codeOf Try.f48)).map (fun d => findLoop (firstRegion d) (codeOf Try.f48)) = (loopsIn (codeOf Try.f48)).map some := by kernel_rfl
theorem hf : Try.prog.funcs[48]? = some Try.f48 := by kernel_rfl
theorem hb : Try.f48.body = some (codeOf Try.f48) := by kernel_rfl
theorem hn : (Try.f48.name == "runtime.NumGoroutine") = false := by kernel_rfl
theorem sound (k : Nat) : Sound Try.prog 48 (entry k) := func_sound (E := env k) (by kernel_rfl) (by kernel_rfl) (by kernel_rfl) (tbl_cons (spec_l01Has.sound k) tbl_nil) hf hb hn (fit k) (loops_all lps) (loops k) (eq k)
end spec_l13Split

namespace spec_SplitChips
def entry (k : Nat) : Entry := ⟨[.ro (.int .i64), .ro (.sl 2 (.int .i64)), .ro (.int .i64), .ro (.int .i64)], [.own (.sl 2 (.int .i64)), .own (.int .i64)], fun (a0, (a1, (a2, (a3, _)))) => f k a0 a1 a2 a3⟩
def env (k : Nat) : Env := ⟨Try.prog, 35, AM.look none [(30, some (spec_l01In.entry k)), (45, some (spec_l13Seats.entry k)), (46, some (spec_l13Winners.entry k)), (47, some (spec_l13Amount.entry k)), (48, some (spec_l13Split.entry k))], AM.look none []⟩
abbrev R := Res [.own (.sl 2 (.int .i64)), .own (.int .i64)] × Outs [.ro (.int .i64), .ro (.sl 2 (.int .i64)), .ro (.int .i64), .ro (.int .i64)]
def L (k : Nat) (q : Nat) (s : St) (K : AExit → St → Option R) : Option R := none
theorem eq (k : Nat) : ∀ a, aexec (env k) (L k) (codeOf Try.f28) (begSt [.ro (.int .i64), .ro (.sl 2 (.int .i64)), .ro (.int .i64), .ro (.int .i64)] a) (finK (env k) Try.f28 [.ro (.int .i64), .ro (.sl 2 (.int .i64)), .ro (.int .i64), .ro (.int .i64)] [.own (.sl 2 (.int .i64)), .own (.int .i64)]) = (entry k).fn a := by intro a; kernel_rfl
theorem loops (k : Nat) : LoopsOk (env k) (L k) (codeOf Try.f28) := by
  intro c an hc han s K r h
  unfold L at h
  cases h
theorem fit (k : Nat) : codeFit (env k) (codeOf Try.f28) = true := by kernel_rfl
theorem lps : (loopsIn (codeOf Try.f28)).map (fun d => findLoop (firstRegion d) (codeOf Try.f28)) = (loopsIn (codeOf Try.f28)).map some := by kernel_rfl
theorem hf : Try.prog.funcs[28]? = some Try.f28 := by kernel_rfl
theorem hb : Try.f28.body = some (codeOf Try.f28) := by kernel_rfl
theorem hn : (Try.f28.name == "runtime.NumGoroutine") = false := by kernel_rfl
theorem sound (k : Nat) : Sound Try.prog 28 (entry k) := func_sound (E := env k) (by kernel_rfl) (by kernel_rfl) (by kernel_rfl) (tbl_cons (spec_l01In.sound k) (tbl_cons (spec_l13Seats.sound k) (tbl_cons (spec_l13Winners.sound k) (tbl_cons (spec_l13Amount.sound k) (tbl_cons (spec_l13Split.sound k) tbl_nil))))) hf hb hn (fit k) (loops_all lps) (loops k) (eq k)
end spec_SplitChips

namespace impl_within
def entry (k : Nat) : Entry := ⟨[.ro (.int .i64), .ro (.int .i64), .ro (.int .i64)], [.own .bool], fun (a0, (a1, (a2, _))) => f k a0 a1 a2⟩
def env (k : Nat) : Env := ⟨Try.prog, 15, AM.look none [], AM.look none []⟩
abbrev R := Res [.own .bool] × Outs [.ro (.int .i64), .ro (.int .i64), .ro (.int .i64)]
def L (k : Nat) (q : Nat) (s : St) (K : AExit → St → Option R) : Option R := none
theorem eq (k : Nat) : ∀ a, aexec (env k) (L k) (codeOf Try.f32) (begSt [.ro (.int .i64), .ro (.int .i64), .ro (.int .i64)] a) (finK (env k) Try.f32 [.ro (.int .i64), .ro (.int .i64), .ro (.int .i64)] [.own .bool]) = (entry k).fn a := by intro a; kernel_rfl
theorem loops (k : Nat) : LoopsOk (env k) (L k) (codeOf Try.f32) := by
  intro c an hc han s K r h
  unfold L at h
  cases h
theorem fit (k : Nat) : codeFit (env k) (codeOf Try.f32) = true := by kernel_rfl
theorem lps : (loopsIn (codeOf Try.f32)).map (fun d => findLoop (firstRegion d) (codeOf Try.f32)) = (loopsIn (codeOf Try.f32)).map some := by kernel_rfl
theorem hf : Try.prog.funcs[32]? = some Try.f32 := by kernel_rfl
theorem hb : Try.f32.body = some (codeOf Try.f32) := by kernel_rfl
theorem hn : (Try.f32.name == "runtime.NumGoroutine") = false := by kernel_rfl
theorem sound (k : Nat) : Sound Try.prog 32 (entry k) := func_sound (E := env k) (by kernel_rfl) (by kernel_rfl) (by kernel_rfl) tbl_nil hf hb hn (fit k) (loops_all lps) (loops k) (eq k)
end impl_within

namespace impl_allWithin
def entry (k : Nat) : Entry := ⟨[.ro (.sl 2 (.int .i64)), .ro (.int .i64), .ro (.int .i64)], [.own .bool], fun (a0, (a1, (a2, _))) => f k a0 a1 a2⟩
def env (k : Nat) : Env := ⟨Try.prog, 21, AM.look none [(32, some (impl_within.entry k))], AM.look none [(2, some ⟨[(1, .asis), (2, .asis), (9, .asis), (10, .asis), (11, .asis)], [(6, .asis)]⟩)]⟩
abbrev R := Res [.own .bool] × Outs [.ro (.sl 2 (.int .i64)), .ro (.int .i64), .ro (.int .i64)]
def sh2 : Shape := ⟨[(1, .val (.int .i64)), (2, .val (.int .i64)), (9, .val (.sl 2 (.int .i64))), (10, .val (.int .i64)), (11, .val (.int .i64))], [], 0, []⟩
def osh2kx0 : Shape := ⟨[(6, .undef)], [], 0, []⟩
def osh2kr : Shape := ⟨[(6, .val .bool)], [], 0, []⟩
def un2 : Int × Int × (List Int) × Int × Int → sh2.V := fun (x1, x2, x9, x10, x11) => ((x1, (x2, (x9, (x10, (x11, ()))))), ())
def fl2 : sh2.V → Int × Int × (List Int) × Int × Int := fun ((x1, (x2, (x9, (x10, (x11, _))))), _) => (x1, x2, x9, x10, x11)
def L (k : Nat) (q : Nat) (s : St) (K : AExit → St → Option R) : Option R := bif Nat.beq q 2 then (match sh2.dec s with | some v => l2 (R := R) k k (fl2 v) (fun (_ : Unit) => K (.exit 0) (osh2kx0.enc (((), ()), ()))) (fun x6 => K .ret (osh2kr.enc ((x6, ()), ()))) | none => none) else (none)
theorem step2 (k n : Nat) (K : AExit → St → Option R) : ∀ v, aloop (aexec (env k) (L k) ((findLoop 2 (codeOf Try.f33)).getD .skip)) (normSt [(1, .asis), (2, .asis), (9, .asis), (10, .asis), (11, .asis)]) (normSt [(6, .asis)]) K (n + 1) (sh2.enc (un2 v)) = s2 (R := R) k (fun w => aloop (aexec (env k) (L k) ((findLoop 2 (codeOf Try.f33)).getD .skip)) (normSt [(1, .asis), (2, .asis), (9, .asis), (10, .asis), (11, .asis)]) (normSt [(6, .asis)]) K n (sh2.enc (un2 w))) (fun (_ : Unit) => K (.exit 0) (osh2kx0.enc (((), ()), ()))) (fun x6 => K .ret (osh2kr.enc ((x6, ()), ()))) v := by intro v; kernel_rfl
theorem eq (k : Nat) : ∀ a, aexec (env k) (L k) (codeOf Try.f33) (begSt [.ro (.sl 2 (.int .i64)), .ro (.int .i64), .ro (.int .i64)] a) (finK (env k) Try.f33 [.ro (.sl 2 (.int .i64)), .ro (.int .i64), .ro (.int .i64)] [.own .bool]) = (entry k).fn a := by intro a; kernel_rfl
theorem run2 (k : Nat) (K : AExit → St → Option R) : ∀ n v, aloop (aexec (env k) (L k) ((findLoop 2 (codeOf Try.f33)).getD .skip)) (normSt [(1, .asis), (2, .asis), (9, .asis), (10, .asis), (11, .asis)]) (normSt [(6, .asis)]) K n (sh2.enc (un2 v)) = l2 (R := R) k n v (fun (_ : Unit) => K (.exit 0) (osh2kx0.enc (((), ()), ()))) (fun x6 => K .ret (osh2kr.enc ((x6, ()), ()))) := loop_eq (fun n v => aloop (aexec (env k) (L k) ((findLoop 2 (codeOf Try.f33)).getD .skip)) (normSt [(1, .asis), (2, .asis), (9, .asis), (10, .asis), (11, .asis)]) (normSt [(6, .asis)]) K n (sh2.enc (un2 v))) (fun n v => l2 (R := R) k n v (fun (_ : Unit) => K (.exit 0) (osh2kx0.enc (((), ()), ()))) (fun x6 => K .ret (osh2kr.enc ((x6, ()), ())))) (fun X v => s2 (R := R) k X (fun (_ : Unit) => K (.exit 0) (osh2kx0.enc (((), ()), ()))) (fun x6 => K .ret (osh2kr.enc ((x6, ()), ()))) v) (fun _ => rfl) (fun n v => step2 k n K v) (fun n v => rfl)
theorem loops (k : Nat) : LoopsOk (env k) (L k) (codeOf Try.f33) := by
  intro c an hc han s K r h
  unfold L at h
  by_cases q2 : firstRegion c = 2
  · have h1 := key_eq q2 h
    rw [q2] at hc han
    have e2 : an = ⟨[(1, .asis), (2, .asis), (9, .asis), (10, .asis), (11, .asis)], [(6, .asis)]⟩ := (Option.some.inj (show some _ = some an from han)).symm
    have e1 : c = (findLoop 2 (codeOf Try.f33)).getD .skip := by rw [hc]; rfl
    cases hd : sh2.dec s with
    | none => rw [hd] at h1; cases h1
    | some v =>
      rw [hd] at h1
      refine ⟨k, ?_⟩
      rw [e1, e2, Shape.dec_enc _ _ _ hd]
      exact (run2 k K k (fl2 v)).trans h1
  have h := not_key q2 h
  cases h
theorem fit (k : Nat) : codeFit (env k) (codeOf Try.f33) = true := by kernel_rfl
theorem lps : (loopsIn (codeOf Try.f33)).map (fun d => findLoop (firstRegion d) (codeOf Try.f33)) = (loopsIn (codeOf Try.f33)).map some := by kernel_rfl
theorem hf : Try.prog.funcs[33]? = some Try.f33 := by kernel_rfl
theorem hb : Try.f33.body = some (codeOf Try.f33) := by kernel_rfl
theorem hn : (Try.f33.name == "runtime.NumGoroutine") = false := by kernel_rfl
theorem sound (k : Nat) : Sound Try.prog 33 (entry k) := func_sound (E := env k) (by kernel_rfl) (by kernel_rfl) (by kernel_rfl) (tbl_cons (impl_within.sound k) tbl_nil) hf hb hn (fit k) (loops_all lps) (loops k) (eq k)
end impl_allWithin

namespace impl_increasing
def entry (k : Nat) : Entry := ⟨[.ro (.sl 2 (.int .i64))], [.own .bool], fun (a0, _) => f k a0⟩
def env (k : Nat) : Env := ⟨Try.prog, 20, AM.look none [], AM.look none [(2, some ⟨[(0, .asis), (3, .asis)], [(2, .asis)]⟩)]⟩
abbrev R := Res [.own .bool] × Outs [.ro (.sl 2 (.int .i64))]
def sh2 : Shape := ⟨[(0, .val (.sl 2 (.int .i64))), (3, .val (.int .i64))], [], 0, []⟩
def osh2kx0 : Shape := ⟨[(2, .undef)], [], 0, []⟩
def osh2kr : Shape := ⟨[(2, .val .bool)], [], 0, []⟩
def un2 : (List Int) × Int → sh2.V := fun (x0, x3) => ((x0, (x3, ())), ())
def fl2 : sh2.V → (List Int) × Int := fun ((x0, (x3, _)), _) => (x0, x3)
def L (k : Nat) (q : Nat) (s : St) (K : AExit → St → Option R) : Option R := bif Nat.beq q 2 then (match sh2.dec s with | some v => l2 (R := R) k k (fl2 v) (fun (_ : Unit) => K (.exit 0) (osh2kx0.enc (((), ()), ()))) (fun x2 => K .ret (osh2kr.enc ((x2, ()), ()))) | none => none) else (none)
theorem step2 (k n : Nat) (K : AExit → St → Option R) : ∀ v, aloop (aexec (env k) (L k) ((findLoop 2 (codeOf Try.f61)).getD .skip)) (normSt [(0, .asis), (3, .asis)]) (normSt [(2, .asis)]) K (n + 1) (sh2.enc (un2 v)) = s2 (R := R) k (fun w => aloop (aexec (env k) (L k) ((findLoop 2 (codeOf Try.f61)).getD .skip)) (normSt [(0, .asis), (3, .asis)]) (normSt [(2, .asis)]) K n (sh2.enc (un2 w))) (fun (_ : Unit) => K (.exit 0) (osh2kx0.enc (((), ()), ()))) (fun x2 => K .ret (osh2kr.enc ((x2, ()), ()))) v := by intro v; kernel_rfl
theorem eq (k : Nat) : ∀ a, aexec (env k) (L k) (codeOf Try.f61) (begSt [.ro (.sl 2 (.int .i64))] a) (finK (env k) Try.f61 [.ro (.sl 2 (.int .i64))] [.own .bool]) = (entry k).fn a := by intro a; kernel_rfl
theorem run2 (k : Nat) (K : AExit → St → Option R) : ∀ n v, aloop (aexec (env k) (L k) ((findLoop 2 (codeOf Try.f61)).getD .skip)) (normSt [(0, .asis), (3, .asis)]) (normSt [(2, .asis)]) K n (sh2.enc (un2 v)) = l2 (R := R) k n v (fun (_ : Unit) => K (.exit 0) (osh2kx0.enc (((), ()), ()))) (fun x2 => K .ret (osh2kr.enc ((x2, ()), ()))) := loop_eq (fun n v => aloop (aexec (env k) (L k) ((findLoop 2 (codeOf Try.f61)).getD .skip)) (normSt [(0, .asis), (3, .asis)]) (normSt [(2, .asis)]) K n (sh2.enc (un2 v))) (fun n v => l2 (R := R) k n v (fun (_ : Unit) => K (.exit 0) (osh2kx0.enc (((), ()), ()))) (fun x2 => K .ret (osh2kr.enc ((x2, ()), ())))) (fun X v => s2 (R := R) k X (fun (_ : Unit) => K (.exit 0) (osh2kx0.enc (((), ()), ()))) (fun x2 => K .ret (osh2kr.enc ((x2, ()), ()))) v) (fun _ => rfl) (fun n v => step2 k n K v) (fun n v => rfl)
theorem loops (k : Nat) : LoopsOk (env k) (L k) (codeOf Try.f61) := by
  intro c an hc han s K r h
  unfold L at h
  by_cases q2 : firstRegion c = 2
  · have h1 := key_eq q2 h
    rw [q2] at hc han
    have e2 : an = ⟨[(0, .asis), (3, .asis)], [(2, .asis)]⟩ := (Option.some.inj (show some _ = some an from han)).symm
    have e1 : c = (findLoop 2 (codeOf Try.f61)).getD .skip := by rw [hc]; rfl
    cases hd : sh2.dec s with
    | none => rw [hd] at h1; cases h1
    | some v =>
      rw [hd] at h1
      refine ⟨k, ?_⟩
      rw [e1, e2, Shape.dec_enc _ _ _ hd]
      exact (run2 k K k (fl2 v)).trans h1
  have h := not_key q2 h
  cases h
theorem fit (k : Nat) : codeFit (env k) (codeOf Try.f61) = true := by kernel_rfl
theorem lps : (loopsIn (codeOf Try.f61)).map (fun d => findLoop (firstRegion d) (codeOf Try.f61)) = (loopsIn (codeOf Try.f61)).map some := by kernel_rfl
theorem hf : Try.prog.funcs[61]? = some Try.f61 := by kernel_rfl
theorem hb : Try.f61.body = some (codeOf Try.f61) := by kernel_rfl
theorem hn : (Try.f61.name == "runtime.NumGoroutine") = false := by kernel_rfl
theorem sound (k : Nat) : Sound Try.prog 61 (entry k) := func_sound (E := env k) (by kernel_rfl) (by kernel_rfl) (by kernel_rfl) tbl_nil hf hb hn (fit k) (loops_all lps) (loops k) (eq k)
end impl_increasing

namespace impl_areWinners
def entry (k : Nat) : Entry := ⟨[.ro (.sl 2 (.int .i64)), .ro (.int .i64)], [.own .bool], fun (a0, (a1, _)) => f k a0 a1⟩
def env (k : Nat) : Env := ⟨Try.prog, 18, AM.look none [(33, some (impl_allWithin.entry k)), (61, some (impl_increasing.entry k))], AM.look none []⟩
abbrev R := Res [.own .bool] × Outs [.ro (.sl 2 (.int .i64)), .ro (.int .i64)]
def L (k : Nat) (q : Nat) (s : St) (K : AExit → St → Option R) : Option R := none
theorem eq (k : Nat) : ∀ a, aexec (env k) (L k) (codeOf Try.f49) (begSt [.ro (.sl 2 (.int .i64)), .ro (.int .i64)] a) (finK (env k) Try.f49 [.ro (.sl 2 (.int .i64)), .ro (.int .i64)] [.own .bool]) = (entry k).fn a := by intro a; kernel_rfl
theorem loops (k : Nat) : LoopsOk (env k) (L k) (codeOf Try.f49) := by
  intro c an hc han s K r h
  unfold L at h
  cases h
theorem fit (k : Nat) : codeFit (env k) (codeOf Try.f49) = true := by kernel_rfl
theorem lps : (loopsIn (codeOf Try.f49)).map (fun d => findLoop (firstRegion d) (codeOf Try.f49)) = (loopsIn (codeOf Try.f49)).map some := by kernel_rfl
theorem hf : Try.prog.funcs[49]? = some Try.f49 := by kernel_rfl
theorem hb : Try.f49.body = some (codeOf Try.f49) := by kernel_rfl
theorem hn : (Try.f49.name == "runtime.NumGoroutine") = false := by kernel_rfl
theorem sound (k : Nat) : Sound Try.prog 49 (entry k) := func_sound (E := env k) (by kernel_rfl) (by kernel_rfl) (by kernel_rfl) (tbl_cons (impl_allWithin.sound k) (tbl_cons (impl_increasing.sound k) tbl_nil)) hf hb hn (fit k) (loops_all lps) (loops k) (eq k)
end impl_areWinners

namespace slices_Index_int64_int64
def entry (k : Nat) : Entry := ⟨[.ro (.sl 2 (.int .i64)), .ro (.int .i64)], [.own (.int .i64)], fun (a0, (a1, _)) => f k a0 a1⟩
def env (k : Nat) : Env := ⟨Try.prog, 19, AM.look none [], AM.look none [(2, some ⟨[(0, .asis), (1, .asis), (7, .asis), (8, .asis)], [(4, .asis)]⟩)]⟩
abbrev R := Res [.own (.int .i64)] × Outs [.ro (.sl 2 (.int .i64)), .ro (.int .i64)]
def sh2 : Shape := ⟨[(0, .val (.sl 2 (.int .i64))), (1, .val (.int .i64)), (7, .val (.int .i64)), (8, .val (.int .i64))], [], 0, []⟩
def osh2kx0 : Shape := ⟨[(4, .undef)], [], 0, []⟩
def osh2kr : Shape := ⟨[(4, .val (.int .i64))], [], 0, []⟩
def un2 : (List Int) × Int × Int × Int → sh2.V := fun (x0, x1, x7, x8) => ((x0, (x1, (x7, (x8, ())))), ())
def fl2 : sh2.V → (List Int) × Int × Int × Int := fun ((x0, (x1, (x7, (x8, _)))), _) => (x0, x1, x7, x8)
def L (k : Nat) (q : Nat) (s : St) (K : AExit → St → Option R) : Option R := bif Nat.beq q 2 then (match sh2.dec s with | some v => l2 (R := R) k k (fl2 v) (fun (_ : Unit) => K (.exit 0) (osh2kx0.enc (((), ()), ()))) (fun x4 => K .ret (osh2kr.enc ((x4, ()), ()))) | none => none) else (none)
theorem step2 (k n : Nat) (K : AExit → St → Option R) : ∀ v, aloop (aexec (env k) (L k) ((findLoop 2 (codeOf Try.f58)).getD .skip)) (normSt [(0, .asis), (1, .asis), (7, .asis), (8, .asis)]) (normSt [(4, .asis)]) K (n + 1) (sh2.enc (un2 v)) = s2 (R := R) k (fun w => aloop (aexec (env k) (L k) ((findLoop 2 (codeOf Try.f58)).getD .skip)) (normSt [(0, .asis), (1, .asis), (7, .asis), (8, .asis)]) (normSt [(4, .asis)]) K n (sh2.enc (un2 w))) (fun (_ : Unit) => K (.exit 0) (osh2kx0.enc (((), ()), ()))) (fun x4 => K .ret (osh2kr.enc ((x4, ()), ()))) v := by intro v; kernel_rfl
theorem eq (k : Nat) : ∀ a, aexec (env k) (L k) (codeOf Try.f58) (begSt [.ro (.sl 2 (.int .i64)), .ro (.int .i64)] a) (finK (env k) Try.f58 [.ro (.sl 2 (.int .i64)), .ro (.int .i64)] [.own (.int .i64)]) = (entry k).fn a := by intro a; kernel_rfl
theorem run2 (k : Nat) (K : AExit → St → Option R) : ∀ n v, aloop (aexec (env k) (L k) ((findLoop 2 (codeOf Try.f58)).getD .skip)) (normSt [(0, .asis), (1, .asis), (7, .asis), (8, .asis)]) (normSt [(4, .asis)]) K n (sh2.enc (un2 v)) = l2 (R := R) k n v (fun (_ : Unit) => K (.exit 0) (osh2kx0.enc (((), ()), ()))) (fun x4 => K .ret (osh2kr.enc ((x4, ()), ()))) := loop_eq (fun n v => aloop (aexec (env k) (L k) ((findLoop 2 (codeOf Try.f58)).getD .skip)) (normSt [(0, .asis), (1, .asis), (7, .asis), (8, .asis)]) (normSt [(4, .asis)]) K n (sh2.enc (un2 v))) (fun n v => l2 (R := R) k n v (fun (_ : Unit) => K (.exit 0) (osh2kx0.enc (((), ()), ()))) (fun x4 => K .ret (osh2kr.enc ((x4, ()), ())))) (fun X v => s2 (R := R) k X (fun (_ : Unit) => K (.exit 0) (osh2kx0.enc (((), ()), ()))) (fun x4 => K .ret (osh2kr.enc ((x4, ()), ()))) v) (fun _ => rfl) (fun n v => step2 k n K v) (fun n v => rfl)
theorem loops (k : Nat) : LoopsOk (env k) (L k) (codeOf Try.f58) := by
  intro c an hc han s K r h
  unfold L at h
  by_cases q2 : firstRegion c = 2
  · have h1 := key_eq q2 h
    rw [q2] at hc han
    have e2 : an = ⟨[(0, .asis), (1, .asis), (7, .asis), (8, .asis)], [(4, .asis)]⟩ := (Option.some.inj (show some _ = some an from han)).symm
    have e1 : c = (findLoop 2 (codeOf Try.f58)).getD .skip := by rw [hc]; rfl
    cases hd : sh2.dec s with
    | none => rw [hd] at h1; cases h1
    | some v =>
      rw [hd] at h1
      refine ⟨k, ?_⟩
      rw [e1, e2, Shape.dec_enc _ _ _ hd]
      exact (run2 k K k (fl2 v)).trans h1
  have h := not_key q2 h
  cases h
theorem fit (k : Nat) : codeFit (env k) (codeOf Try.f58) = true := by kernel_rfl
theorem lps : (loopsIn (codeOf Try.f58)).map (fun d => findLoop (firstRegion d) (codeOf Try.f58)) = (loopsIn (codeOf Try.f58)).map some := by kernel_rfl
theorem hf : Try.prog.funcs[58]? = some Try.f58 := by kernel_rfl
theorem hb : Try.f58.body = some (codeOf Try.f58) := by kernel_rfl
theorem hn : (Try.f58.name == "runtime.NumGoroutine") = false := by kernel_rfl
theorem sound (k : Nat) : Sound Try.prog 58 (entry k) := func_sound (E := env k) (by kernel_rfl) (by kernel_rfl) (by kernel_rfl) tbl_nil hf hb hn (fit k) (loops_all lps) (loops k) (eq k)
end slices_Index_int64_int64

namespace slices_Contains_int64_int64
def entry (k : Nat) : Entry := ⟨[.ro (.sl 2 (.int .i64)), .ro (.int .i64)], [.own .bool], fun (a0, (a1, _)) => f k a0 a1⟩
def env (k : Nat) : Env := ⟨Try.prog, 9, AM.look none [(58, some (slices_Index_int64_int64.entry k))], AM.look none []⟩
abbrev R := Res [.own .bool] × Outs [.ro (.sl 2 (.int .i64)), .ro (.int .i64)]
def L (k : Nat) (q : Nat) (s : St) (K : AExit → St → Option R) : Option R := none
theorem eq (k : Nat) : ∀ a, aexec (env k) (L k) (codeOf Try.f62) (begSt [.ro (.sl 2 (.int .i64)), .ro (.int .i64)] a) (finK (env k) Try.f62 [.ro (.sl 2 (.int .i64)), .ro (.int .i64)] [.own .bool]) = (entry k).fn a := by intro a; kernel_rfl
theorem loops (k : Nat) : LoopsOk (env k) (L k) (codeOf Try.f62) := by
  intro c an hc han s K r h
  unfold L at h
  cases h
theorem fit (k : Nat) : codeFit (env k) (codeOf Try.f62) = true := by kernel_rfl
theorem lps : (loopsIn (codeOf Try.f62)).map (fun d => findLoop (firstRegion d) (codeOf Try.f62)) = (loopsIn (codeOf Try.f62)).map some := by kernel_rfl
theorem hf : Try.prog.funcs[62]? = some Try.f62 := by kernel_rfl
theorem hb : Try.f62.body = some (codeOf Try.f62) := by kernel_rfl
theorem hn : (Try.f62.name == "runtime.NumGoroutine") = false := by kernel_rfl
theorem sound (k : Nat) : Sound Try.prog 62 (entry k) := func_sound (E := env k) (by kernel_rfl) (by kernel_rfl) (by kernel_rfl) (tbl_cons (slices_Index_int64_int64.sound k) tbl_nil) hf hb hn (fit k) (loops_all lps) (loops k) (eq k)
end slices_Contains_int64_int64

namespace impl_splitChips
def entry (k : Nat) : Entry := ⟨[.ro (.int .i64), .ro (.sl 2 (.int .i64)), .ro (.int .i64), .ro (.int .i64)], [.own (.sl 2 (.int .i64))], fun (a0, (a1, (a2, (a3, _)))) => f k a0 a1 a2 a3⟩
def env (k : Nat) : Env := ⟨Try.prog, 52, AM.look none [(62, some (slices_Contains_int64_int64.entry k))], AM.look none [(5, some ⟨[(0, .asis), (1, .asis), (2, .asis), (3, .asis), (9, .asis), (10, .asis), (11, .asis), (21, .asis), (22, .asis)], [(9, .asis)]⟩)]⟩
abbrev R := Res [.own (.sl 2 (.int .i64))] × Outs [.ro (.int .i64), .ro (.sl 2 (.int .i64)), .ro (.int .i64), .ro (.int .i64)]
def sh5 : Shape := ⟨[(0, .val (.int .i64)), (1, .val (.sl 2 (.int .i64))), (2, .val (.int .i64)), (3, .val (.int .i64)), (9, .ref 0), (10, .val (.int .i64)), (11, .val (.int .i64)), (21, .val (.int .i64)), (22, .val (.int .i64))], [(0, .row 2 (.int .i64))], 1, []⟩
def osh5kx0 : Shape := ⟨[(9, .ref 0)], [(0, .row 2 (.int .i64))], 1, []⟩
def un5 : Int × (List Int) × Int × Int × Int × Int × Int × Int × (List Int) → sh5.V := fun (x0, x1, x2, x3, x10, x11, x21, x22, y0) => ((x0, (x1, (x2, (x3, ((), (x10, (x11, (x21, (x22, ()))))))))), (y0, ()))
def fl5 : sh5.V → Int × (List Int) × Int × Int × Int × Int × Int × Int × (List Int) := fun ((x0, (x1, (x2, (x3, (_, (x10, (x11, (x21, (x22, _))))))))), (y0, _)) => (x0, x1, x2, x3, x10, x11, x21, x22, y0)
def L (k : Nat) (q : Nat) (s : St) (K : AExit → St → Option R) : Option R := bif Nat.beq q 5 then (match sh5.dec s with | some v => l5 (R := R) k k (fl5 v) (fun y0 => K (.exit 0) (osh5kx0.enc (((), ()), (y0, ())))) | none => none) else (none)
theorem step5 (k n : Nat) (K : AExit → St → Option R) : ∀ v, aloop (aexec (env k) (L k) ((findLoop 5 (codeOf Try.f50)).getD .skip)) (normSt [(0, .asis), (1, .asis), (2, .asis), (3, .asis), (9, .asis), (10, .asis), (11, .asis), (21, .asis), (22, .asis)]) (normSt [(9, .asis)]) K (n + 1) (sh5.enc (un5 v)) = s5 (R := R) k (fun w => aloop (aexec (env k) (L k) ((findLoop 5 (codeOf Try.f50)).getD .skip)) (normSt [(0, .asis), (1, .asis), (2, .asis), (3, .asis), (9, .asis), (10, .asis), (11, .asis), (21, .asis), (22, .asis)]) (normSt [(9, .asis)]) K n (sh5.enc (un5 w))) (fun y0 => K (.exit 0) (osh5kx0.enc (((), ()), (y0, ())))) v := by intro v; kernel_rfl
theorem eq (k : Nat) : ∀ a, aexec (env k) (L k) (codeOf Try.f50) (begSt [.ro (.int .i64), .ro (.sl 2 (.int .i64)), .ro (.int .i64), .ro (.int .i64)] a) (finK (env k) Try.f50 [.ro (.int .i64), .ro (.sl 2 (.int .i64)), .ro (.int .i64), .ro (.int .i64)] [.own (.sl 2 (.int .i64))]) = (entry k).fn a := by intro a; kernel_rfl
theorem run5 (k : Nat) (K : AExit → St → Option R) : ∀ n v, aloop (aexec (env k) (L k) ((findLoop 5 (codeOf Try.f50)).getD .skip)) (normSt [(0, .asis), (1, .asis), (2, .asis), (3, .asis), (9, .asis), (10, .asis), (11, .asis), (21, .asis), (22, .asis)]) (normSt [(9, .asis)]) K n (sh5.enc (un5 v)) = l5 (R := R) k n v (fun y0 => K (.exit 0) (osh5kx0.enc (((), ()), (y0, ())))) := loop_eq (fun n v => aloop (aexec (env k) (L k) ((findLoop 5 (codeOf Try.f50)).getD .skip)) (normSt [(0, .asis), (1, .asis), (2, .asis), (3, .asis), (9, .asis), (10, .asis), (11, .asis), (21, .asis), (22, .asis)]) (normSt [(9, .asis)]) K n (sh5.enc (un5 v))) (fun n v => l5 (R := R) k n v (fun y0 => K (.exit 0) (osh5kx0.enc (((), ()), (y0, ()))))) (fun X v => s5 (R := R) k X (fun y0 => K (.exit 0) (osh5kx0.enc (((), ()), (y0, ())))) v) (fun _ => rfl) (fun n v => step5 k n K v) (fun n v => rfl)
theorem loops (k : Nat) : LoopsOk (env k) (L k) (codeOf Try.f50) := by
  intro c an hc han s K r h
  unfold L at h
  by_cases q5 : firstRegion c = 5
  · have h1 := key_eq q5 h
    rw [q5] at hc han
    have e2 : an = ⟨[(0, .asis), (1, .asis), (2, .asis), (3, .asis), (9, .asis), (10, .asis), (11, .asis), (21, .asis), (22, .asis)], [(9, .asis)]⟩ := (Option.some.inj (show some _ = some an from han)).symm
    have e1 : c = (findLoop 5 (codeOf Try.f50)).getD .skip := by rw [hc]; rfl
    cases hd : sh5.dec s with
    | none => rw [hd] at h1; cases h1
    | some v =>
      rw [hd] at h1
      refine ⟨k, ?_⟩
      rw [e1, e2, Shape.dec_enc _ _ _ hd]
      exact (run5 k K k (fl5 v)).trans h1
  have h := not_key q5 h
  cases h
theorem fit (k : Nat) : codeFit (env k) (codeOf Try.f50) = true := by kernel_rfl
theorem lps : (loopsIn (codeOf Try.f50)).map (fun d => findLoop (firstRegion d) (codeOf Try.f50)) = (loopsIn (codeOf Try.f50)).map some := by kernel_rfl
theorem hf : Try.prog.funcs[50]? = some Try.f50 := by kernel_rfl
theorem hb : Try.f50.body = some (codeOf Try.f50) := by kernel_rfl
theorem hn : (Try.f50.name == "runtime.NumGoroutine") = false := by kernel_rfl
theorem sound (k : Nat) : Sound Try.prog 50 (entry k) := func_sound (E := env k) (by kernel_rfl) (by kernel_rfl) (by kernel_rfl) (tbl_cons (slices_Contains_int64_int64.sound k) tbl_nil) hf hb hn (fit k) (loops_all lps) (loops k) (eq k)
end impl_splitChips

namespace impl_SplitChips
def entry (k : Nat) : Entry := ⟨[.ro (.int .i64), .ro (.sl 2 (.int .i64)), .ro (.int .i64), .ro (.int .i64)], [.own (.sl 2 (.int .i64)), .own (.int .i64)], fun (a0, (a1, (a2, (a3, _)))) => f k a0 a1 a2 a3⟩
def env (k : Nat) : Env := ⟨Try.prog, 35, AM.look none [(32, some (impl_within.entry k)), (49, some (impl_areWinners.entry k)), (50, some (impl_splitChips.entry k))], AM.look none []⟩
abbrev R := Res [.own (.sl 2 (.int .i64)), .own (.int .i64)] × Outs [.ro (.int .i64), .ro (.sl 2 (.int .i64)), .ro (.int .i64), .ro (.int .i64)]
def L (k : Nat) (q : Nat) (s : St) (K : AExit → St → Option R) : Option R := none
theorem eq (k : Nat) : ∀ a, aexec (env k) (L k) (codeOf Try.f29) (begSt [.ro (.int .i64), .ro (.sl 2 (.int .i64)), .ro (.int .i64), .ro (.int .i64)] a) (finK (env k) Try.f29 [.ro (.int .i64), .ro (.sl 2 (.int .i64)), .ro (.int .i64), .ro (.int .i64)] [.own (.sl 2 (.int .i64)), .own (.int .i64)]) = (entry k).fn a := by intro a; kernel_rfl
theorem loops (k : Nat) : LoopsOk (env k) (L k) (codeOf Try.f29) := by
  intro c an hc han s K r h
  unfold L at h
  cases h
theorem fit (k : Nat) : codeFit (env k) (codeOf Try.f29) = true := by kernel_rfl
theorem lps : (loopsIn (codeOf Try.f29)).map (fun d => findLoop (firstRegion d) (codeOf Try.f29)) = (loopsIn (codeOf Try.f29)).map some := by kernel_rfl
theorem hf : Try.prog.funcs[29]? = some Try.f29 := by kernel_rfl
theorem hb : Try.f29.body = some (codeOf Try.f29) := by kernel_rfl
theorem hn : (Try.f29.name == "runtime.NumGoroutine") = false := by kernel_rfl
theorem sound (k : Nat) : Sound Try.prog 29 (entry k) := func_sound (E := env k) (by kernel_rfl) (by kernel_rfl) (by kernel_rfl) (tbl_cons (impl_within.sound k) (tbl_cons (impl_areWinners.sound k) (tbl_cons (impl_splitChips.sound k) tbl_nil))) hf hb hn (fit k) (loops_all lps) (loops k) (eq k)
end impl_SplitChips

namespace laws_FnExactSplitChips
def entry (k : Nat) : Entry := ⟨[.ro (.int .i64), .ro (.sl 2 (.int .i64)), .ro (.int .i64), .ro (.int .i64)], [.own .bool], fun (a0, (a1, (a2, (a3, _)))) => f k a0 a1 a2 a3⟩
def env (k : Nat) : Env := ⟨Try.prog, 108, AM.look none [(15, some (laws_toInt64S.entry k)), (18, some (laws_eqInt64S.entry k)), (22, some (laws_markInt64S.entry k)), (23, some (laws_heldInt64S.entry k)), (28, some (spec_SplitChips.entry k)), (29, some (impl_SplitChips.entry k))], AM.look none []⟩
abbrev R := Res [.own .bool] × Outs [.ro (.int .i64), .ro (.sl 2 (.int .i64)), .ro (.int .i64), .ro (.int .i64)]
def L (k : Nat) (q : Nat) (s : St) (K : AExit → St → Option R) : Option R := none
theorem eq (k : Nat) : ∀ a, aexec (env k) (L k) (codeOf Try.f9) (begSt [.ro (.int .i64), .ro (.sl 2 (.int .i64)), .ro (.int .i64), .ro (.int .i64)] a) (finK (env k) Try.f9 [.ro (.int .i64), .ro (.sl 2 (.int .i64)), .ro (.int .i64), .ro (.int .i64)] [.own .bool]) = (entry k).fn a := by intro a; kernel_rfl
theorem loops (k : Nat) : LoopsOk (env k) (L k) (codeOf Try.f9) := by
  intro c an hc han s K r h
  unfold L at h
  cases h
theorem fit (k : Nat) : codeFit (env k) (codeOf Try.f9) = true := by kernel_rfl
theorem lps : (loopsIn (codeOf Try.f9)).map (fun d => findLoop (firstRegion d) (codeOf Try.f9)) = (loopsIn (codeOf Try.f9)).map some := by kernel_rfl
theorem hf : Try.prog.funcs[9]? = some Try.f9 := by kernel_rfl
theorem hb : Try.f9.body = some (codeOf Try.f9) := by kernel_rfl
theorem hn : (Try.f9.name == "runtime.NumGoroutine") = false := by kernel_rfl
theorem sound (k : Nat) : Sound Try.prog 9 (entry k) := func_sound (E := env k) (by kernel_rfl) (by kernel_rfl) (by kernel_rfl) (tbl_cons (laws_toInt64S.sound k) (tbl_cons (laws_eqInt64S.sound k) (tbl_cons (laws_markInt64S.sound k) (tbl_cons (laws_heldInt64S.sound k) (tbl_cons (spec_SplitChips.sound k) (tbl_cons (impl_SplitChips.sound k) tbl_nil)))))) hf hb hn (fit k) (loops_all lps) (loops k) (eq k)
end laws_FnExactSplitChips
end Go.Sh
