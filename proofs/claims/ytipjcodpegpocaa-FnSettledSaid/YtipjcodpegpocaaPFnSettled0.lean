/- Each Go function that the law reaches keeps the contract that its Lean function states; conditions: none. -/
import Derived.Test.YtipjcodpegpocaaA1
import Derived.Test.YtipjcodpegpocaaSFnSettled0
import Derived.Test.YtipjcodpegpocaaProg
noncomputable section
set_option linter.unusedVariables false
set_option maxRecDepth 100000
namespace Go.Sh
open Go Go.AM Go.Proofs
namespace laws_big
def entry (k : Nat) : Entry := ⟨[.ro (.sl 5 (.int .u8))], [.own .bool], fun (a0, _) => f k a0⟩
def tbl (k : Nat) : List (Nat × Option Entry) := []
abbrev R := Res [.own .bool] × Outs [.ro (.sl 5 (.int .u8))]
def env (k : Nat) : Env := ⟨Try.prog, 6, AM.look none (tbl k), AM.look none []⟩
def L (k : Nat) (q : Nat) (s : St) (K : AExit → St → Option R) : Option R := none
def J (k : Nat) : Inl R := noInl
theorem eq (k : Nat) : ∀ a, aexec (env k) (J k) (L k) (codeOf Try.f28) (begSt [.ro (.sl 5 (.int .u8))] a) (finK (env k) Try.f28 [.ro (.sl 5 (.int .u8))] [.own .bool]) = (entry k).fn a := by intro a; kernel_rfl
theorem loops (k : Nat) : LoopsOk (env k) (J k) (L k) (codeOf Try.f28) := by
  intro c an hc han s K r h
  unfold L at h
  cases h
theorem fit (k : Nat) : codeFit (env k) (codeOf Try.f28) = true := by kernel_rfl
theorem lps : (loopsIn (codeOf Try.f28)).map (fun d => findLoop (firstRegion d) (codeOf Try.f28)) = (loopsIn (codeOf Try.f28)).map some := by kernel_rfl
theorem hf : Try.prog.funcs[28]? = some Try.f28 := by kernel_rfl
theorem hb : Try.f28.body = some (codeOf Try.f28) := by kernel_rfl
theorem hn : (Try.f28.name == "runtime.NumGoroutine") = false := by kernel_rfl
theorem hJ (k : Nat) : ∀ C : Ctx, C.P = Try.prog → ∀ r, InlOk C (J k) r := fun C hC r => noInl_ok
theorem sound (k : Nat) : Sound Try.prog 28 (entry k) := func_sound (E := env k) (by kernel_rfl) (by kernel_rfl) (by kernel_rfl) (by kernel_rfl) tbl_nil hf hb hn (fit k) (loops_all lps) (hJ k) (loops k) (eq k)
end laws_big

namespace laws_likeInts
def entry (k : Nat) : Entry := ⟨[.ro (.sl 2 (.int .i64)), .ro (.sl 2 (.int .i64))], [.own .bool], fun (a0, (a1, _)) => f k a0 a1⟩
def tbl (k : Nat) : List (Nat × Option Entry) := []
abbrev R := Res [.own .bool] × Outs [.ro (.sl 2 (.int .i64)), .ro (.sl 2 (.int .i64))]
def env (k : Nat) : Env := ⟨Try.prog, 26, AM.look none (tbl k), AM.look none [(4, some ⟨[(0, .asis), (1, .asis), (5, .asis)], [(4, .asis)]⟩)]⟩
def sh4 : Shape := ⟨[(0, .val (.sl 2 (.int .i64))), (1, .val (.sl 2 (.int .i64))), (5, .val (.int .i64))], [], 0, []⟩
def osh4kx0 : Shape := ⟨[(4, .undef)], [], 0, []⟩
def osh4kr : Shape := ⟨[(4, .val .bool)], [], 0, []⟩
def un4 : (List Int) × (List Int) × Int → sh4.V := fun (x0, x1, x5) => ((x0, (x1, (x5, ()))), ())
def fl4 : sh4.V → (List Int) × (List Int) × Int := fun ((x0, (x1, (x5, _))), _) => (x0, x1, x5)
def L (k : Nat) (q : Nat) (s : St) (K : AExit → St → Option R) : Option R := bif Nat.beq q 4 then (match sh4.dec s with | some v => l4 (R := R) k k (fl4 v) (fun (_ : Unit) => K (.exit 0) (osh4kx0.enc (((), ()), ()))) (fun x4 => K .ret (osh4kr.enc ((x4, ()), ()))) | none => none) else (none)
def J (k : Nat) : Inl R := noInl
theorem step4 (k n : Nat) (K : AExit → St → Option R) : ∀ v, aloop (aexec (env k) (J k) (L k) ((findLoop 4 (codeOf Try.f32)).getD .skip)) (normSt [(0, .asis), (1, .asis), (5, .asis)]) (normSt [(4, .asis)]) K (n + 1) (sh4.enc (un4 v)) = s4 (R := R) k (fun w => aloop (aexec (env k) (J k) (L k) ((findLoop 4 (codeOf Try.f32)).getD .skip)) (normSt [(0, .asis), (1, .asis), (5, .asis)]) (normSt [(4, .asis)]) K n (sh4.enc (un4 w))) (fun (_ : Unit) => K (.exit 0) (osh4kx0.enc (((), ()), ()))) (fun x4 => K .ret (osh4kr.enc ((x4, ()), ()))) v := by intro v; kernel_rfl
theorem eq (k : Nat) : ∀ a, aexec (env k) (J k) (L k) (codeOf Try.f32) (begSt [.ro (.sl 2 (.int .i64)), .ro (.sl 2 (.int .i64))] a) (finK (env k) Try.f32 [.ro (.sl 2 (.int .i64)), .ro (.sl 2 (.int .i64))] [.own .bool]) = (entry k).fn a := by intro a; kernel_rfl
theorem run4 (k : Nat) (K : AExit → St → Option R) : ∀ n v, aloop (aexec (env k) (J k) (L k) ((findLoop 4 (codeOf Try.f32)).getD .skip)) (normSt [(0, .asis), (1, .asis), (5, .asis)]) (normSt [(4, .asis)]) K n (sh4.enc (un4 v)) = l4 (R := R) k n v (fun (_ : Unit) => K (.exit 0) (osh4kx0.enc (((), ()), ()))) (fun x4 => K .ret (osh4kr.enc ((x4, ()), ()))) := loop_eq (fun n v => aloop (aexec (env k) (J k) (L k) ((findLoop 4 (codeOf Try.f32)).getD .skip)) (normSt [(0, .asis), (1, .asis), (5, .asis)]) (normSt [(4, .asis)]) K n (sh4.enc (un4 v))) (fun n v => l4 (R := R) k n v (fun (_ : Unit) => K (.exit 0) (osh4kx0.enc (((), ()), ()))) (fun x4 => K .ret (osh4kr.enc ((x4, ()), ())))) (fun X v => s4 (R := R) k X (fun (_ : Unit) => K (.exit 0) (osh4kx0.enc (((), ()), ()))) (fun x4 => K .ret (osh4kr.enc ((x4, ()), ()))) v) (fun _ => rfl) (fun n v => step4 k n K v) (fun n v => rfl)
theorem loops (k : Nat) : LoopsOk (env k) (J k) (L k) (codeOf Try.f32) := by
  intro c an hc han s K r h
  unfold L at h
  by_cases q4 : firstRegion c = 4
  · have h1 := key_eq q4 h
    rw [q4] at hc han
    have e2 : an = ⟨[(0, .asis), (1, .asis), (5, .asis)], [(4, .asis)]⟩ := (Option.some.inj (show some _ = some an from han)).symm
    have e1 : c = (findLoop 4 (codeOf Try.f32)).getD .skip := by rw [hc]; rfl
    cases hd : sh4.dec s with
    | none => rw [hd] at h1; cases h1
    | some v =>
      rw [hd] at h1
      refine ⟨k, ?_⟩
      rw [e1, e2, Shape.dec_enc _ _ _ hd]
      exact (run4 k K k (fl4 v)).trans h1
  have h := not_key q4 h
  cases h
theorem fit (k : Nat) : codeFit (env k) (codeOf Try.f32) = true := by kernel_rfl
theorem lps : (loopsIn (codeOf Try.f32)).map (fun d => findLoop (firstRegion d) (codeOf Try.f32)) = (loopsIn (codeOf Try.f32)).map some := by kernel_rfl
theorem hf : Try.prog.funcs[32]? = some Try.f32 := by kernel_rfl
theorem hb : Try.f32.body = some (codeOf Try.f32) := by kernel_rfl
theorem hn : (Try.f32.name == "runtime.NumGoroutine") = false := by kernel_rfl
theorem hJ (k : Nat) : ∀ C : Ctx, C.P = Try.prog → ∀ r, InlOk C (J k) r := fun C hC r => noInl_ok
theorem sound (k : Nat) : Sound Try.prog 32 (entry k) := func_sound (E := env k) (by kernel_rfl) (by kernel_rfl) (by kernel_rfl) (by kernel_rfl) tbl_nil hf hb hn (fit k) (loops_all lps) (hJ k) (loops k) (eq k)
end laws_likeInts

namespace laws_sum
def entry (k : Nat) : Entry := ⟨[.ro (.sl 2 (.int .i64))], [.own (.int .i64)], fun (a0, _) => f k a0⟩
def tbl (k : Nat) : List (Nat × Option Entry) := []
abbrev R := Res [.own (.int .i64)] × Outs [.ro (.sl 2 (.int .i64))]
def env (k : Nat) : Env := ⟨Try.prog, 18, AM.look none (tbl k), AM.look none [(3, some ⟨[(0, .asis), (3, .asis), (4, .asis)], [(3, .asis)]⟩)]⟩
def sh3 : Shape := ⟨[(0, .val (.sl 2 (.int .i64))), (3, .val (.int .i64)), (4, .val (.int .i64))], [], 0, []⟩
def osh3kx0 : Shape := ⟨[(3, .val (.int .i64))], [], 0, []⟩
def un3 : (List Int) × Int × Int → sh3.V := fun (x0, x3, x4) => ((x0, (x3, (x4, ()))), ())
def fl3 : sh3.V → (List Int) × Int × Int := fun ((x0, (x3, (x4, _))), _) => (x0, x3, x4)
def L (k : Nat) (q : Nat) (s : St) (K : AExit → St → Option R) : Option R := bif Nat.beq q 3 then (match sh3.dec s with | some v => l3 (R := R) k k (fl3 v) (fun x3 => K (.exit 0) (osh3kx0.enc ((x3, ()), ()))) | none => none) else (none)
def J (k : Nat) : Inl R := noInl
theorem step3 (k n : Nat) (K : AExit → St → Option R) : ∀ v, aloop (aexec (env k) (J k) (L k) ((findLoop 3 (codeOf Try.f34)).getD .skip)) (normSt [(0, .asis), (3, .asis), (4, .asis)]) (normSt [(3, .asis)]) K (n + 1) (sh3.enc (un3 v)) = s3 (R := R) k (fun w => aloop (aexec (env k) (J k) (L k) ((findLoop 3 (codeOf Try.f34)).getD .skip)) (normSt [(0, .asis), (3, .asis), (4, .asis)]) (normSt [(3, .asis)]) K n (sh3.enc (un3 w))) (fun x3 => K (.exit 0) (osh3kx0.enc ((x3, ()), ()))) v := by intro v; kernel_rfl
theorem eq (k : Nat) : ∀ a, aexec (env k) (J k) (L k) (codeOf Try.f34) (begSt [.ro (.sl 2 (.int .i64))] a) (finK (env k) Try.f34 [.ro (.sl 2 (.int .i64))] [.own (.int .i64)]) = (entry k).fn a := by intro a; kernel_rfl
theorem run3 (k : Nat) (K : AExit → St → Option R) : ∀ n v, aloop (aexec (env k) (J k) (L k) ((findLoop 3 (codeOf Try.f34)).getD .skip)) (normSt [(0, .asis), (3, .asis), (4, .asis)]) (normSt [(3, .asis)]) K n (sh3.enc (un3 v)) = l3 (R := R) k n v (fun x3 => K (.exit 0) (osh3kx0.enc ((x3, ()), ()))) := loop_eq (fun n v => aloop (aexec (env k) (J k) (L k) ((findLoop 3 (codeOf Try.f34)).getD .skip)) (normSt [(0, .asis), (3, .asis), (4, .asis)]) (normSt [(3, .asis)]) K n (sh3.enc (un3 v))) (fun n v => l3 (R := R) k n v (fun x3 => K (.exit 0) (osh3kx0.enc ((x3, ()), ())))) (fun X v => s3 (R := R) k X (fun x3 => K (.exit 0) (osh3kx0.enc ((x3, ()), ()))) v) (fun _ => rfl) (fun n v => step3 k n K v) (fun n v => rfl)
theorem loops (k : Nat) : LoopsOk (env k) (J k) (L k) (codeOf Try.f34) := by
  intro c an hc han s K r h
  unfold L at h
  by_cases q3 : firstRegion c = 3
  · have h1 := key_eq q3 h
    rw [q3] at hc han
    have e2 : an = ⟨[(0, .asis), (3, .asis), (4, .asis)], [(3, .asis)]⟩ := (Option.some.inj (show some _ = some an from han)).symm
    have e1 : c = (findLoop 3 (codeOf Try.f34)).getD .skip := by rw [hc]; rfl
    cases hd : sh3.dec s with
    | none => rw [hd] at h1; cases h1
    | some v =>
      rw [hd] at h1
      refine ⟨k, ?_⟩
      rw [e1, e2, Shape.dec_enc _ _ _ hd]
      exact (run3 k K k (fl3 v)).trans h1
  have h := not_key q3 h
  cases h
theorem fit (k : Nat) : codeFit (env k) (codeOf Try.f34) = true := by kernel_rfl
theorem lps : (loopsIn (codeOf Try.f34)).map (fun d => findLoop (firstRegion d) (codeOf Try.f34)) = (loopsIn (codeOf Try.f34)).map some := by kernel_rfl
theorem hf : Try.prog.funcs[34]? = some Try.f34 := by kernel_rfl
theorem hb : Try.f34.body = some (codeOf Try.f34) := by kernel_rfl
theorem hn : (Try.f34.name == "runtime.NumGoroutine") = false := by kernel_rfl
theorem hJ (k : Nat) : ∀ C : Ctx, C.P = Try.prog → ∀ r, InlOk C (J k) r := fun C hC r => noInl_ok
theorem sound (k : Nat) : Sound Try.prog 34 (entry k) := func_sound (E := env k) (by kernel_rfl) (by kernel_rfl) (by kernel_rfl) (by kernel_rfl) tbl_nil hf hb hn (fit k) (loops_all lps) (hJ k) (loops k) (eq k)
end laws_sum

namespace spec_l01In
def entry (k : Nat) : Entry := ⟨[.ro (.int .i64), .ro (.int .i64), .ro (.int .i64)], [.own .bool], fun (a0, (a1, (a2, _))) => f k a0 a1 a2⟩
def tbl (k : Nat) : List (Nat × Option Entry) := []
abbrev R := Res [.own .bool] × Outs [.ro (.int .i64), .ro (.int .i64), .ro (.int .i64)]
def env (k : Nat) : Env := ⟨Try.prog, 15, AM.look none (tbl k), AM.look none []⟩
def L (k : Nat) (q : Nat) (s : St) (K : AExit → St → Option R) : Option R := none
def J (k : Nat) : Inl R := noInl
theorem eq (k : Nat) : ∀ a, aexec (env k) (J k) (L k) (codeOf Try.f57) (begSt [.ro (.int .i64), .ro (.int .i64), .ro (.int .i64)] a) (finK (env k) Try.f57 [.ro (.int .i64), .ro (.int .i64), .ro (.int .i64)] [.own .bool]) = (entry k).fn a := by intro a; kernel_rfl
theorem loops (k : Nat) : LoopsOk (env k) (J k) (L k) (codeOf Try.f57) := by
  intro c an hc han s K r h
  unfold L at h
  cases h
theorem fit (k : Nat) : codeFit (env k) (codeOf Try.f57) = true := by kernel_rfl
theorem lps : (loopsIn (codeOf Try.f57)).map (fun d => findLoop (firstRegion d) (codeOf Try.f57)) = (loopsIn (codeOf Try.f57)).map some := by kernel_rfl
theorem hf : Try.prog.funcs[57]? = some Try.f57 := by kernel_rfl
theorem hb : Try.f57.body = some (codeOf Try.f57) := by kernel_rfl
theorem hn : (Try.f57.name == "runtime.NumGoroutine") = false := by kernel_rfl
theorem hJ (k : Nat) : ∀ C : Ctx, C.P = Try.prog → ∀ r, InlOk C (J k) r := fun C hC r => noInl_ok
theorem sound (k : Nat) : Sound Try.prog 57 (entry k) := func_sound (E := env k) (by kernel_rfl) (by kernel_rfl) (by kernel_rfl) (by kernel_rfl) tbl_nil hf hb hn (fit k) (loops_all lps) (hJ k) (loops k) (eq k)
end spec_l01In

namespace spec_l10Chips
def entry (k : Nat) : Entry := ⟨[.ro (.sl 2 (.int .i64)), .ro (.int .i64)], [.own .bool], fun (a0, (a1, _)) => f k a0 a1⟩
def tbl (k : Nat) : List (Nat × Option Entry) := [(57, some (spec_l01In.entry k))]
abbrev R := Res [.own .bool] × Outs [.ro (.sl 2 (.int .i64)), .ro (.int .i64)]
def env (k : Nat) : Env := ⟨Try.prog, 22, AM.look none (tbl k), AM.look none [(2, some ⟨[(0, .asis), (1, .asis), (5, .asis)], [(0, .asis), (1, .asis), (4, .asis)]⟩)]⟩
def sh2 : Shape := ⟨[(0, .val (.sl 2 (.int .i64))), (1, .val (.int .i64)), (5, .val (.int .i64))], [], 0, []⟩
def osh2kx0 : Shape := ⟨[(0, .val (.sl 2 (.int .i64))), (1, .val (.int .i64)), (4, .undef)], [], 0, []⟩
def osh2kr : Shape := ⟨[(0, .val (.sl 2 (.int .i64))), (1, .val (.int .i64)), (4, .val .bool)], [], 0, []⟩
def un2 : (List Int) × Int × Int → sh2.V := fun (x0, x1, x5) => ((x0, (x1, (x5, ()))), ())
def fl2 : sh2.V → (List Int) × Int × Int := fun ((x0, (x1, (x5, _))), _) => (x0, x1, x5)
def L (k : Nat) (q : Nat) (s : St) (K : AExit → St → Option R) : Option R := bif Nat.beq q 2 then (match sh2.dec s with | some v => l2 (R := R) k k (fl2 v) (fun (x0, x1) => K (.exit 0) (osh2kx0.enc ((x0, (x1, ((), ()))), ()))) (fun (x0, x1, x4) => K .ret (osh2kr.enc ((x0, (x1, (x4, ()))), ()))) | none => none) else (none)
def J (k : Nat) : Inl R := noInl
theorem step2 (k n : Nat) (K : AExit → St → Option R) : ∀ v, aloop (aexec (env k) (J k) (L k) ((findLoop 2 (codeOf Try.f90)).getD .skip)) (normSt [(0, .asis), (1, .asis), (5, .asis)]) (normSt [(0, .asis), (1, .asis), (4, .asis)]) K (n + 1) (sh2.enc (un2 v)) = s2 (R := R) k (fun w => aloop (aexec (env k) (J k) (L k) ((findLoop 2 (codeOf Try.f90)).getD .skip)) (normSt [(0, .asis), (1, .asis), (5, .asis)]) (normSt [(0, .asis), (1, .asis), (4, .asis)]) K n (sh2.enc (un2 w))) (fun (x0, x1) => K (.exit 0) (osh2kx0.enc ((x0, (x1, ((), ()))), ()))) (fun (x0, x1, x4) => K .ret (osh2kr.enc ((x0, (x1, (x4, ()))), ()))) v := by intro v; kernel_rfl
theorem eq (k : Nat) : ∀ a, aexec (env k) (J k) (L k) (codeOf Try.f90) (begSt [.ro (.sl 2 (.int .i64)), .ro (.int .i64)] a) (finK (env k) Try.f90 [.ro (.sl 2 (.int .i64)), .ro (.int .i64)] [.own .bool]) = (entry k).fn a := by intro a; kernel_rfl
theorem run2 (k : Nat) (K : AExit → St → Option R) : ∀ n v, aloop (aexec (env k) (J k) (L k) ((findLoop 2 (codeOf Try.f90)).getD .skip)) (normSt [(0, .asis), (1, .asis), (5, .asis)]) (normSt [(0, .asis), (1, .asis), (4, .asis)]) K n (sh2.enc (un2 v)) = l2 (R := R) k n v (fun (x0, x1) => K (.exit 0) (osh2kx0.enc ((x0, (x1, ((), ()))), ()))) (fun (x0, x1, x4) => K .ret (osh2kr.enc ((x0, (x1, (x4, ()))), ()))) := loop_eq (fun n v => aloop (aexec (env k) (J k) (L k) ((findLoop 2 (codeOf Try.f90)).getD .skip)) (normSt [(0, .asis), (1, .asis), (5, .asis)]) (normSt [(0, .asis), (1, .asis), (4, .asis)]) K n (sh2.enc (un2 v))) (fun n v => l2 (R := R) k n v (fun (x0, x1) => K (.exit 0) (osh2kx0.enc ((x0, (x1, ((), ()))), ()))) (fun (x0, x1, x4) => K .ret (osh2kr.enc ((x0, (x1, (x4, ()))), ())))) (fun X v => s2 (R := R) k X (fun (x0, x1) => K (.exit 0) (osh2kx0.enc ((x0, (x1, ((), ()))), ()))) (fun (x0, x1, x4) => K .ret (osh2kr.enc ((x0, (x1, (x4, ()))), ()))) v) (fun _ => rfl) (fun n v => step2 k n K v) (fun n v => rfl)
theorem loops (k : Nat) : LoopsOk (env k) (J k) (L k) (codeOf Try.f90) := by
  intro c an hc han s K r h
  unfold L at h
  by_cases q2 : firstRegion c = 2
  · have h1 := key_eq q2 h
    rw [q2] at hc han
    have e2 : an = ⟨[(0, .asis), (1, .asis), (5, .asis)], [(0, .asis), (1, .asis), (4, .asis)]⟩ := (Option.some.inj (show some _ = some an from han)).symm
    have e1 : c = (findLoop 2 (codeOf Try.f90)).getD .skip := by rw [hc]; rfl
    cases hd : sh2.dec s with
    | none => rw [hd] at h1; cases h1
    | some v =>
      rw [hd] at h1
      refine ⟨k, ?_⟩
      rw [e1, e2, Shape.dec_enc _ _ _ hd]
      exact (run2 k K k (fl2 v)).trans h1
  have h := not_key q2 h
  cases h
theorem fit (k : Nat) : codeFit (env k) (codeOf Try.f90) = true := by kernel_rfl
theorem lps : (loopsIn (codeOf Try.f90)).map (fun d => findLoop (firstRegion d) (codeOf Try.f90)) = (loopsIn (codeOf Try.f90)).map some := by kernel_rfl
theorem hf : Try.prog.funcs[90]? = some Try.f90 := by kernel_rfl
theorem hb : Try.f90.body = some (codeOf Try.f90) := by kernel_rfl
theorem hn : (Try.f90.name == "runtime.NumGoroutine") = false := by kernel_rfl
theorem hJ (k : Nat) : ∀ C : Ctx, C.P = Try.prog → ∀ r, InlOk C (J k) r := fun C hC r => noInl_ok
theorem sound (k : Nat) : Sound Try.prog 90 (entry k) := func_sound (E := env k) (by kernel_rfl) (by kernel_rfl) (by kernel_rfl) (by kernel_rfl) (tbl_cons (spec_l01In.sound k) tbl_nil) hf hb hn (fit k) (loops_all lps) (hJ k) (loops k) (eq k)
end spec_l10Chips

namespace spec_ArePayments
def entry (k : Nat) : Entry := ⟨[.ro (.sl 2 (.int .i64)), .ro (.sl 4 .bool)], [.own .bool], fun (a0, (a1, _)) => f k a0 a1⟩
def tbl (k : Nat) : List (Nat × Option Entry) := [(57, some (spec_l01In.entry k)), (90, some (spec_l10Chips.entry k))]
abbrev R := Res [.own .bool] × Outs [.ro (.sl 2 (.int .i64)), .ro (.sl 4 .bool)]
def env (k : Nat) : Env := ⟨Try.prog, 35, AM.look none (tbl k), AM.look none [(4, some ⟨[(0, .asis), (1, .asis), (5, .asis)], [(4, .asis)]⟩)]⟩
def sh4 : Shape := ⟨[(0, .val (.sl 2 (.int .i64))), (1, .val (.sl 4 .bool)), (5, .val (.int .i64))], [], 0, []⟩
def osh4kx0 : Shape := ⟨[(4, .undef)], [], 0, []⟩
def osh4kr : Shape := ⟨[(4, .val .bool)], [], 0, []⟩
def un4 : (List Int) × (List Bool) × Int → sh4.V := fun (x0, x1, x5) => ((x0, (x1, (x5, ()))), ())
def fl4 : sh4.V → (List Int) × (List Bool) × Int := fun ((x0, (x1, (x5, _))), _) => (x0, x1, x5)
def L (k : Nat) (q : Nat) (s : St) (K : AExit → St → Option R) : Option R := bif Nat.beq q 4 then (match sh4.dec s with | some v => l4 (R := R) k k (fl4 v) (fun (_ : Unit) => K (.exit 0) (osh4kx0.enc (((), ()), ()))) (fun x4 => K .ret (osh4kr.enc ((x4, ()), ()))) | none => none) else (none)
def J (k : Nat) : Inl R := noInl
theorem step4 (k n : Nat) (K : AExit → St → Option R) : ∀ v, aloop (aexec (env k) (J k) (L k) ((findLoop 4 (codeOf Try.f78)).getD .skip)) (normSt [(0, .asis), (1, .asis), (5, .asis)]) (normSt [(4, .asis)]) K (n + 1) (sh4.enc (un4 v)) = s4 (R := R) k (fun w => aloop (aexec (env k) (J k) (L k) ((findLoop 4 (codeOf Try.f78)).getD .skip)) (normSt [(0, .asis), (1, .asis), (5, .asis)]) (normSt [(4, .asis)]) K n (sh4.enc (un4 w))) (fun (_ : Unit) => K (.exit 0) (osh4kx0.enc (((), ()), ()))) (fun x4 => K .ret (osh4kr.enc ((x4, ()), ()))) v := by intro v; kernel_rfl
theorem eq (k : Nat) : ∀ a, aexec (env k) (J k) (L k) (codeOf Try.f78) (begSt [.ro (.sl 2 (.int .i64)), .ro (.sl 4 .bool)] a) (finK (env k) Try.f78 [.ro (.sl 2 (.int .i64)), .ro (.sl 4 .bool)] [.own .bool]) = (entry k).fn a := by intro a; kernel_rfl
theorem run4 (k : Nat) (K : AExit → St → Option R) : ∀ n v, aloop (aexec (env k) (J k) (L k) ((findLoop 4 (codeOf Try.f78)).getD .skip)) (normSt [(0, .asis), (1, .asis), (5, .asis)]) (normSt [(4, .asis)]) K n (sh4.enc (un4 v)) = l4 (R := R) k n v (fun (_ : Unit) => K (.exit 0) (osh4kx0.enc (((), ()), ()))) (fun x4 => K .ret (osh4kr.enc ((x4, ()), ()))) := loop_eq (fun n v => aloop (aexec (env k) (J k) (L k) ((findLoop 4 (codeOf Try.f78)).getD .skip)) (normSt [(0, .asis), (1, .asis), (5, .asis)]) (normSt [(4, .asis)]) K n (sh4.enc (un4 v))) (fun n v => l4 (R := R) k n v (fun (_ : Unit) => K (.exit 0) (osh4kx0.enc (((), ()), ()))) (fun x4 => K .ret (osh4kr.enc ((x4, ()), ())))) (fun X v => s4 (R := R) k X (fun (_ : Unit) => K (.exit 0) (osh4kx0.enc (((), ()), ()))) (fun x4 => K .ret (osh4kr.enc ((x4, ()), ()))) v) (fun _ => rfl) (fun n v => step4 k n K v) (fun n v => rfl)
theorem loops (k : Nat) : LoopsOk (env k) (J k) (L k) (codeOf Try.f78) := by
  intro c an hc han s K r h
  unfold L at h
  by_cases q4 : firstRegion c = 4
  · have h1 := key_eq q4 h
    rw [q4] at hc han
    have e2 : an = ⟨[(0, .asis), (1, .asis), (5, .asis)], [(4, .asis)]⟩ := (Option.some.inj (show some _ = some an from han)).symm
    have e1 : c = (findLoop 4 (codeOf Try.f78)).getD .skip := by rw [hc]; rfl
    cases hd : sh4.dec s with
    | none => rw [hd] at h1; cases h1
    | some v =>
      rw [hd] at h1
      refine ⟨k, ?_⟩
      rw [e1, e2, Shape.dec_enc _ _ _ hd]
      exact (run4 k K k (fl4 v)).trans h1
  have h := not_key q4 h
  cases h
theorem fit (k : Nat) : codeFit (env k) (codeOf Try.f78) = true := by kernel_rfl
theorem lps : (loopsIn (codeOf Try.f78)).map (fun d => findLoop (firstRegion d) (codeOf Try.f78)) = (loopsIn (codeOf Try.f78)).map some := by kernel_rfl
theorem hf : Try.prog.funcs[78]? = some Try.f78 := by kernel_rfl
theorem hb : Try.f78.body = some (codeOf Try.f78) := by kernel_rfl
theorem hn : (Try.f78.name == "runtime.NumGoroutine") = false := by kernel_rfl
theorem hJ (k : Nat) : ∀ C : Ctx, C.P = Try.prog → ∀ r, InlOk C (J k) r := fun C hC r => noInl_ok
theorem sound (k : Nat) : Sound Try.prog 78 (entry k) := func_sound (E := env k) (by kernel_rfl) (by kernel_rfl) (by kernel_rfl) (by kernel_rfl) (tbl_cons (spec_l01In.sound k) (tbl_cons (spec_l10Chips.sound k) tbl_nil)) hf hb hn (fit k) (loops_all lps) (hJ k) (loops k) (eq k)
end spec_ArePayments

namespace spec_l13Values
def entry (k : Nat) : Entry := ⟨[.ro (.sl 2 (.int .i64)), .ro (.int .i64)], [.own .bool], fun (a0, (a1, _)) => f k a0 a1⟩
def tbl (k : Nat) : List (Nat × Option Entry) := []
abbrev R := Res [.own .bool] × Outs [.ro (.sl 2 (.int .i64)), .ro (.int .i64)]
def env (k : Nat) : Env := ⟨Try.prog, 21, AM.look none (tbl k), AM.look none [(2, some ⟨[(0, .asis), (1, .asis), (5, .asis)], [(0, .asis), (1, .asis), (4, .asis)]⟩)]⟩
def sh2 : Shape := ⟨[(0, .val (.sl 2 (.int .i64))), (1, .val (.int .i64)), (5, .val (.int .i64))], [], 0, []⟩
def osh2kx0 : Shape := ⟨[(0, .val (.sl 2 (.int .i64))), (1, .val (.int .i64)), (4, .undef)], [], 0, []⟩
def osh2kr : Shape := ⟨[(0, .val (.sl 2 (.int .i64))), (1, .val (.int .i64)), (4, .val .bool)], [], 0, []⟩
def un2 : (List Int) × Int × Int → sh2.V := fun (x0, x1, x5) => ((x0, (x1, (x5, ()))), ())
def fl2 : sh2.V → (List Int) × Int × Int := fun ((x0, (x1, (x5, _))), _) => (x0, x1, x5)
def L (k : Nat) (q : Nat) (s : St) (K : AExit → St → Option R) : Option R := bif Nat.beq q 2 then (match sh2.dec s with | some v => l2 (R := R) k k (fl2 v) (fun (x0, x1) => K (.exit 0) (osh2kx0.enc ((x0, (x1, ((), ()))), ()))) (fun (x0, x1, x4) => K .ret (osh2kr.enc ((x0, (x1, (x4, ()))), ()))) | none => none) else (none)
def J (k : Nat) : Inl R := noInl
theorem step2 (k n : Nat) (K : AExit → St → Option R) : ∀ v, aloop (aexec (env k) (J k) (L k) ((findLoop 2 (codeOf Try.f79)).getD .skip)) (normSt [(0, .asis), (1, .asis), (5, .asis)]) (normSt [(0, .asis), (1, .asis), (4, .asis)]) K (n + 1) (sh2.enc (un2 v)) = s2 (R := R) k (fun w => aloop (aexec (env k) (J k) (L k) ((findLoop 2 (codeOf Try.f79)).getD .skip)) (normSt [(0, .asis), (1, .asis), (5, .asis)]) (normSt [(0, .asis), (1, .asis), (4, .asis)]) K n (sh2.enc (un2 w))) (fun (x0, x1) => K (.exit 0) (osh2kx0.enc ((x0, (x1, ((), ()))), ()))) (fun (x0, x1, x4) => K .ret (osh2kr.enc ((x0, (x1, (x4, ()))), ()))) v := by intro v; kernel_rfl
theorem eq (k : Nat) : ∀ a, aexec (env k) (J k) (L k) (codeOf Try.f79) (begSt [.ro (.sl 2 (.int .i64)), .ro (.int .i64)] a) (finK (env k) Try.f79 [.ro (.sl 2 (.int .i64)), .ro (.int .i64)] [.own .bool]) = (entry k).fn a := by intro a; kernel_rfl
theorem run2 (k : Nat) (K : AExit → St → Option R) : ∀ n v, aloop (aexec (env k) (J k) (L k) ((findLoop 2 (codeOf Try.f79)).getD .skip)) (normSt [(0, .asis), (1, .asis), (5, .asis)]) (normSt [(0, .asis), (1, .asis), (4, .asis)]) K n (sh2.enc (un2 v)) = l2 (R := R) k n v (fun (x0, x1) => K (.exit 0) (osh2kx0.enc ((x0, (x1, ((), ()))), ()))) (fun (x0, x1, x4) => K .ret (osh2kr.enc ((x0, (x1, (x4, ()))), ()))) := loop_eq (fun n v => aloop (aexec (env k) (J k) (L k) ((findLoop 2 (codeOf Try.f79)).getD .skip)) (normSt [(0, .asis), (1, .asis), (5, .asis)]) (normSt [(0, .asis), (1, .asis), (4, .asis)]) K n (sh2.enc (un2 v))) (fun n v => l2 (R := R) k n v (fun (x0, x1) => K (.exit 0) (osh2kx0.enc ((x0, (x1, ((), ()))), ()))) (fun (x0, x1, x4) => K .ret (osh2kr.enc ((x0, (x1, (x4, ()))), ())))) (fun X v => s2 (R := R) k X (fun (x0, x1) => K (.exit 0) (osh2kx0.enc ((x0, (x1, ((), ()))), ()))) (fun (x0, x1, x4) => K .ret (osh2kr.enc ((x0, (x1, (x4, ()))), ()))) v) (fun _ => rfl) (fun n v => step2 k n K v) (fun n v => rfl)
theorem loops (k : Nat) : LoopsOk (env k) (J k) (L k) (codeOf Try.f79) := by
  intro c an hc han s K r h
  unfold L at h
  by_cases q2 : firstRegion c = 2
  · have h1 := key_eq q2 h
    rw [q2] at hc han
    have e2 : an = ⟨[(0, .asis), (1, .asis), (5, .asis)], [(0, .asis), (1, .asis), (4, .asis)]⟩ := (Option.some.inj (show some _ = some an from han)).symm
    have e1 : c = (findLoop 2 (codeOf Try.f79)).getD .skip := by rw [hc]; rfl
    cases hd : sh2.dec s with
    | none => rw [hd] at h1; cases h1
    | some v =>
      rw [hd] at h1
      refine ⟨k, ?_⟩
      rw [e1, e2, Shape.dec_enc _ _ _ hd]
      exact (run2 k K k (fl2 v)).trans h1
  have h := not_key q2 h
  cases h
theorem fit (k : Nat) : codeFit (env k) (codeOf Try.f79) = true := by kernel_rfl
theorem lps : (loopsIn (codeOf Try.f79)).map (fun d => findLoop (firstRegion d) (codeOf Try.f79)) = (loopsIn (codeOf Try.f79)).map some := by kernel_rfl
theorem hf : Try.prog.funcs[79]? = some Try.f79 := by kernel_rfl
theorem hb : Try.f79.body = some (codeOf Try.f79) := by kernel_rfl
theorem hn : (Try.f79.name == "runtime.NumGoroutine") = false := by kernel_rfl
theorem hJ (k : Nat) : ∀ C : Ctx, C.P = Try.prog → ∀ r, InlOk C (J k) r := fun C hC r => noInl_ok
theorem sound (k : Nat) : Sound Try.prog 79 (entry k) := func_sound (E := env k) (by kernel_rfl) (by kernel_rfl) (by kernel_rfl) (by kernel_rfl) tbl_nil hf hb hn (fit k) (loops_all lps) (hJ k) (loops k) (eq k)
end spec_l13Values

namespace spec_l01Has
def entry (k : Nat) : Entry := ⟨[.ro (.sl 2 (.int .i64)), .ro (.int .i64)], [.own .bool], fun (a0, (a1, _)) => f k a0 a1⟩
def tbl (k : Nat) : List (Nat × Option Entry) := []
abbrev R := Res [.own .bool] × Outs [.ro (.sl 2 (.int .i64)), .ro (.int .i64)]
def env (k : Nat) : Env := ⟨Try.prog, 18, AM.look none (tbl k), AM.look none [(2, some ⟨[(0, .asis), (1, .asis), (5, .asis)], [(4, .asis)]⟩)]⟩
def sh2 : Shape := ⟨[(0, .val (.sl 2 (.int .i64))), (1, .val (.int .i64)), (5, .val (.int .i64))], [], 0, []⟩
def osh2kx0 : Shape := ⟨[(4, .undef)], [], 0, []⟩
def osh2kr : Shape := ⟨[(4, .val .bool)], [], 0, []⟩
def un2 : (List Int) × Int × Int → sh2.V := fun (x0, x1, x5) => ((x0, (x1, (x5, ()))), ())
def fl2 : sh2.V → (List Int) × Int × Int := fun ((x0, (x1, (x5, _))), _) => (x0, x1, x5)
def L (k : Nat) (q : Nat) (s : St) (K : AExit → St → Option R) : Option R := bif Nat.beq q 2 then (match sh2.dec s with | some v => l2 (R := R) k k (fl2 v) (fun (_ : Unit) => K (.exit 0) (osh2kx0.enc (((), ()), ()))) (fun x4 => K .ret (osh2kr.enc ((x4, ()), ()))) | none => none) else (none)
def J (k : Nat) : Inl R := noInl
theorem step2 (k n : Nat) (K : AExit → St → Option R) : ∀ v, aloop (aexec (env k) (J k) (L k) ((findLoop 2 (codeOf Try.f94)).getD .skip)) (normSt [(0, .asis), (1, .asis), (5, .asis)]) (normSt [(4, .asis)]) K (n + 1) (sh2.enc (un2 v)) = s2 (R := R) k (fun w => aloop (aexec (env k) (J k) (L k) ((findLoop 2 (codeOf Try.f94)).getD .skip)) (normSt [(0, .asis), (1, .asis), (5, .asis)]) (normSt [(4, .asis)]) K n (sh2.enc (un2 w))) (fun (_ : Unit) => K (.exit 0) (osh2kx0.enc (((), ()), ()))) (fun x4 => K .ret (osh2kr.enc ((x4, ()), ()))) v := by intro v; kernel_rfl
theorem eq (k : Nat) : ∀ a, aexec (env k) (J k) (L k) (codeOf Try.f94) (begSt [.ro (.sl 2 (.int .i64)), .ro (.int .i64)] a) (finK (env k) Try.f94 [.ro (.sl 2 (.int .i64)), .ro (.int .i64)] [.own .bool]) = (entry k).fn a := by intro a; kernel_rfl
theorem run2 (k : Nat) (K : AExit → St → Option R) : ∀ n v, aloop (aexec (env k) (J k) (L k) ((findLoop 2 (codeOf Try.f94)).getD .skip)) (normSt [(0, .asis), (1, .asis), (5, .asis)]) (normSt [(4, .asis)]) K n (sh2.enc (un2 v)) = l2 (R := R) k n v (fun (_ : Unit) => K (.exit 0) (osh2kx0.enc (((), ()), ()))) (fun x4 => K .ret (osh2kr.enc ((x4, ()), ()))) := loop_eq (fun n v => aloop (aexec (env k) (J k) (L k) ((findLoop 2 (codeOf Try.f94)).getD .skip)) (normSt [(0, .asis), (1, .asis), (5, .asis)]) (normSt [(4, .asis)]) K n (sh2.enc (un2 v))) (fun n v => l2 (R := R) k n v (fun (_ : Unit) => K (.exit 0) (osh2kx0.enc (((), ()), ()))) (fun x4 => K .ret (osh2kr.enc ((x4, ()), ())))) (fun X v => s2 (R := R) k X (fun (_ : Unit) => K (.exit 0) (osh2kx0.enc (((), ()), ()))) (fun x4 => K .ret (osh2kr.enc ((x4, ()), ()))) v) (fun _ => rfl) (fun n v => step2 k n K v) (fun n v => rfl)
theorem loops (k : Nat) : LoopsOk (env k) (J k) (L k) (codeOf Try.f94) := by
  intro c an hc han s K r h
  unfold L at h
  by_cases q2 : firstRegion c = 2
  · have h1 := key_eq q2 h
    rw [q2] at hc han
    have e2 : an = ⟨[(0, .asis), (1, .asis), (5, .asis)], [(4, .asis)]⟩ := (Option.some.inj (show some _ = some an from han)).symm
    have e1 : c = (findLoop 2 (codeOf Try.f94)).getD .skip := by rw [hc]; rfl
    cases hd : sh2.dec s with
    | none => rw [hd] at h1; cases h1
    | some v =>
      rw [hd] at h1
      refine ⟨k, ?_⟩
      rw [e1, e2, Shape.dec_enc _ _ _ hd]
      exact (run2 k K k (fl2 v)).trans h1
  have h := not_key q2 h
  cases h
theorem fit (k : Nat) : codeFit (env k) (codeOf Try.f94) = true := by kernel_rfl
theorem lps : (loopsIn (codeOf Try.f94)).map (fun d => findLoop (firstRegion d) (codeOf Try.f94)) = (loopsIn (codeOf Try.f94)).map some := by kernel_rfl
theorem hf : Try.prog.funcs[94]? = some Try.f94 := by kernel_rfl
theorem hb : Try.f94.body = some (codeOf Try.f94) := by kernel_rfl
theorem hn : (Try.f94.name == "runtime.NumGoroutine") = false := by kernel_rfl
theorem hJ (k : Nat) : ∀ C : Ctx, C.P = Try.prog → ∀ r, InlOk C (J k) r := fun C hC r => noInl_ok
theorem sound (k : Nat) : Sound Try.prog 94 (entry k) := func_sound (E := env k) (by kernel_rfl) (by kernel_rfl) (by kernel_rfl) (by kernel_rfl) tbl_nil hf hb hn (fit k) (loops_all lps) (hJ k) (loops k) (eq k)
end spec_l01Has

namespace spec_l13Split
def entry (k : Nat) : Entry := ⟨[.ro (.int .i64), .ro (.sl 2 (.int .i64)), .ro (.int .i64), .ro (.int .i64)], [.own (.sl 2 (.int .i64))], fun (a0, (a1, (a2, (a3, _)))) => f k a0 a1 a2 a3⟩
def tbl (k : Nat) : List (Nat × Option Entry) := [(94, some (spec_l01Has.entry k))]
abbrev R := Res [.own (.sl 2 (.int .i64))] × Outs [.ro (.int .i64), .ro (.sl 2 (.int .i64)), .ro (.int .i64), .ro (.int .i64)]
def env (k : Nat) : Env := ⟨Try.prog, 51, AM.look none (tbl k), AM.look none [(5, some ⟨[(0, .asis), (1, .asis), (2, .asis), (3, .asis), (9, .asis), (10, .asis), (11, .asis), (12, .asis)], [(9, .asis)]⟩)]⟩
def sh5 : Shape := ⟨[(0, .val (.int .i64)), (1, .val (.sl 2 (.int .i64))), (2, .val (.int .i64)), (3, .val (.int .i64)), (9, .ref 0), (10, .val (.int .i64)), (11, .val (.int .i64)), (12, .val (.int .i64))], [(0, .row 2 (.int .i64))], 1, []⟩
def osh5kx0 : Shape := ⟨[(9, .ref 0)], [(0, .row 2 (.int .i64))], 1, []⟩
def un5 : Int × (List Int) × Int × Int × Int × Int × Int × (List Int) → sh5.V := fun (x0, x1, x2, x3, x10, x11, x12, y0) => ((x0, (x1, (x2, (x3, ((), (x10, (x11, (x12, ())))))))), (y0, ()))
def fl5 : sh5.V → Int × (List Int) × Int × Int × Int × Int × Int × (List Int) := fun ((x0, (x1, (x2, (x3, (_, (x10, (x11, (x12, _)))))))), (y0, _)) => (x0, x1, x2, x3, x10, x11, x12, y0)
def L (k : Nat) (q : Nat) (s : St) (K : AExit → St → Option R) : Option R := bif Nat.beq q 5 then (match sh5.dec s with | some v => l5 (R := R) k k (fl5 v) (fun y0 => K (.exit 0) (osh5kx0.enc (((), ()), (y0, ())))) | none => none) else (none)
def J (k : Nat) : Inl R := noInl
theorem step5 (k n : Nat) (K : AExit → St → Option R) : ∀ v, aloop (aexec (env k) (J k) (L k) ((findLoop 5 (codeOf Try.f58)).getD .skip)) (normSt [(0, .asis), (1, .asis), (2, .asis), (3, .asis), (9, .asis), (10, .asis), (11, .asis), (12, .asis)]) (normSt [(9, .asis)]) K (n + 1) (sh5.enc (un5 v)) = s5 (R := R) k (fun w => aloop (aexec (env k) (J k) (L k) ((findLoop 5 (codeOf Try.f58)).getD .skip)) (normSt [(0, .asis), (1, .asis), (2, .asis), (3, .asis), (9, .asis), (10, .asis), (11, .asis), (12, .asis)]) (normSt [(9, .asis)]) K n (sh5.enc (un5 w))) (fun y0 => K (.exit 0) (osh5kx0.enc (((), ()), (y0, ())))) v := by intro v; kernel_rfl
theorem eq (k : Nat) : ∀ a, aexec (env k) (J k) (L k) (codeOf Try.f58) (begSt [.ro (.int .i64), .ro (.sl 2 (.int .i64)), .ro (.int .i64), .ro (.int .i64)] a) (finK (env k) Try.f58 [.ro (.int .i64), .ro (.sl 2 (.int .i64)), .ro (.int .i64), .ro (.int .i64)] [.own (.sl 2 (.int .i64))]) = (entry k).fn a := by intro a; kernel_rfl
theorem run5 (k : Nat) (K : AExit → St → Option R) : ∀ n v, aloop (aexec (env k) (J k) (L k) ((findLoop 5 (codeOf Try.f58)).getD .skip)) (normSt [(0, .asis), (1, .asis), (2, .asis), (3, .asis), (9, .asis), (10, .asis), (11, .asis), (12, .asis)]) (normSt [(9, .asis)]) K n (sh5.enc (un5 v)) = l5 (R := R) k n v (fun y0 => K (.exit 0) (osh5kx0.enc (((), ()), (y0, ())))) := loop_eq (fun n v => aloop (aexec (env k) (J k) (L k) ((findLoop 5 (codeOf Try.f58)).getD .skip)) (normSt [(0, .asis), (1, .asis), (2, .asis), (3, .asis), (9, .asis), (10, .asis), (11, .asis), (12, .asis)]) (normSt [(9, .asis)]) K n (sh5.enc (un5 v))) (fun n v => l5 (R := R) k n v (fun y0 => K (.exit 0) (osh5kx0.enc (((), ()), (y0, ()))))) (fun X v => s5 (R := R) k X (fun y0 => K (.exit 0) (osh5kx0.enc (((), ()), (y0, ())))) v) (fun _ => rfl) (fun n v => step5 k n K v) (fun n v => rfl)
theorem loops (k : Nat) : LoopsOk (env k) (J k) (L k) (codeOf Try.f58) := by
  intro c an hc han s K r h
  unfold L at h
  by_cases q5 : firstRegion c = 5
  · have h1 := key_eq q5 h
    rw [q5] at hc han
    have e2 : an = ⟨[(0, .asis), (1, .asis), (2, .asis), (3, .asis), (9, .asis), (10, .asis), (11, .asis), (12, .asis)], [(9, .asis)]⟩ := (Option.some.inj (show some _ = some an from han)).symm
    have e1 : c = (findLoop 5 (codeOf Try.f58)).getD .skip := by rw [hc]; rfl
    cases hd : sh5.dec s with
    | none => rw [hd] at h1; cases h1
    | some v =>
      rw [hd] at h1
      refine ⟨k, ?_⟩
      rw [e1, e2, Shape.dec_enc _ _ _ hd]
      exact (run5 k K k (fl5 v)).trans h1
  have h := not_key q5 h
  cases h
theorem fit (k : Nat) : codeFit (env k) (codeOf Try.f58) = true := by kernel_rfl
theorem lps : (loopsIn (codeOf Try.f58)).map (fun d => findLoop (firstRegion d) (codeOf Try.f58)) = (loopsIn (codeOf Try.f58)).map some := by kernel_rfl
theorem hf : Try.prog.funcs[58]? = some Try.f58 := by kernel_rfl
theorem hb : Try.f58.body = some (codeOf Try.f58) := by kernel_rfl
theorem hn : (Try.f58.name == "runtime.NumGoroutine") = false := by kernel_rfl
theorem hJ (k : Nat) : ∀ C : Ctx, C.P = Try.prog → ∀ r, InlOk C (J k) r := fun C hC r => noInl_ok
theorem sound (k : Nat) : Sound Try.prog 58 (entry k) := func_sound (E := env k) (by kernel_rfl) (by kernel_rfl) (by kernel_rfl) (by kernel_rfl) (tbl_cons (spec_l01Has.sound k) tbl_nil) hf hb hn (fit k) (loops_all lps) (hJ k) (loops k) (eq k)
end spec_l13Split

namespace spec_l13Best
def entry (k : Nat) : Entry := ⟨[.ro (.sl 2 (.int .i64)), .ro (.sl 2 (.int .i64)), .ro .bool], [.own (.sl 2 (.int .i64))], fun (a0, (a1, (a2, _))) => f k a0 a1 a2⟩
def tbl (k : Nat) : List (Nat × Option Entry) := []
abbrev R := Res [.own (.sl 2 (.int .i64))] × Outs [.ro (.sl 2 (.int .i64)), .ro (.sl 2 (.int .i64)), .ro .bool]
def env (k : Nat) : Env := ⟨Try.prog, 66, AM.look none (tbl k), AM.look none [(4, some ⟨[(0, .asis), (1, .asis), (2, .asis), (7, .asis), (8, .asis), (9, .asis)], [(7, .asis)]⟩)]⟩
def sh4 : Shape := ⟨[(0, .val (.sl 2 (.int .i64))), (1, .val (.sl 2 (.int .i64))), (2, .val .bool), (7, .ref 0), (8, .val (.int .i64)), (9, .val (.int .i64))], [(0, .row 2 (.int .i64))], 1, []⟩
def osh4kx0 : Shape := ⟨[(7, .ref 0)], [(0, .row 2 (.int .i64))], 1, []⟩
def un4 : (List Int) × (List Int) × Bool × Int × Int × (List Int) → sh4.V := fun (x0, x1, x2, x8, x9, y0) => ((x0, (x1, (x2, ((), (x8, (x9, ())))))), (y0, ()))
def fl4 : sh4.V → (List Int) × (List Int) × Bool × Int × Int × (List Int) := fun ((x0, (x1, (x2, (_, (x8, (x9, _)))))), (y0, _)) => (x0, x1, x2, x8, x9, y0)
def L (k : Nat) (q : Nat) (s : St) (K : AExit → St → Option R) : Option R := bif Nat.beq q 4 then (match sh4.dec s with | some v => l4 (R := R) k k (fl4 v) (fun y0 => K (.exit 0) (osh4kx0.enc (((), ()), (y0, ())))) | none => none) else (none)
def J (k : Nat) : Inl R := noInl
theorem step4 (k n : Nat) (K : AExit → St → Option R) : ∀ v, aloop (aexec (env k) (J k) (L k) ((findLoop 4 (codeOf Try.f97)).getD .skip)) (normSt [(0, .asis), (1, .asis), (2, .asis), (7, .asis), (8, .asis), (9, .asis)]) (normSt [(7, .asis)]) K (n + 1) (sh4.enc (un4 v)) = s4 (R := R) k (fun w => aloop (aexec (env k) (J k) (L k) ((findLoop 4 (codeOf Try.f97)).getD .skip)) (normSt [(0, .asis), (1, .asis), (2, .asis), (7, .asis), (8, .asis), (9, .asis)]) (normSt [(7, .asis)]) K n (sh4.enc (un4 w))) (fun y0 => K (.exit 0) (osh4kx0.enc (((), ()), (y0, ())))) v := by intro v; kernel_rfl
theorem eq (k : Nat) : ∀ a, aexec (env k) (J k) (L k) (codeOf Try.f97) (begSt [.ro (.sl 2 (.int .i64)), .ro (.sl 2 (.int .i64)), .ro .bool] a) (finK (env k) Try.f97 [.ro (.sl 2 (.int .i64)), .ro (.sl 2 (.int .i64)), .ro .bool] [.own (.sl 2 (.int .i64))]) = (entry k).fn a := by intro a; kernel_rfl
theorem run4 (k : Nat) (K : AExit → St → Option R) : ∀ n v, aloop (aexec (env k) (J k) (L k) ((findLoop 4 (codeOf Try.f97)).getD .skip)) (normSt [(0, .asis), (1, .asis), (2, .asis), (7, .asis), (8, .asis), (9, .asis)]) (normSt [(7, .asis)]) K n (sh4.enc (un4 v)) = l4 (R := R) k n v (fun y0 => K (.exit 0) (osh4kx0.enc (((), ()), (y0, ())))) := loop_eq (fun n v => aloop (aexec (env k) (J k) (L k) ((findLoop 4 (codeOf Try.f97)).getD .skip)) (normSt [(0, .asis), (1, .asis), (2, .asis), (7, .asis), (8, .asis), (9, .asis)]) (normSt [(7, .asis)]) K n (sh4.enc (un4 v))) (fun n v => l4 (R := R) k n v (fun y0 => K (.exit 0) (osh4kx0.enc (((), ()), (y0, ()))))) (fun X v => s4 (R := R) k X (fun y0 => K (.exit 0) (osh4kx0.enc (((), ()), (y0, ())))) v) (fun _ => rfl) (fun n v => step4 k n K v) (fun n v => rfl)
theorem loops (k : Nat) : LoopsOk (env k) (J k) (L k) (codeOf Try.f97) := by
  intro c an hc han s K r h
  unfold L at h
  by_cases q4 : firstRegion c = 4
  · have h1 := key_eq q4 h
    rw [q4] at hc han
    have e2 : an = ⟨[(0, .asis), (1, .asis), (2, .asis), (7, .asis), (8, .asis), (9, .asis)], [(7, .asis)]⟩ := (Option.some.inj (show some _ = some an from han)).symm
    have e1 : c = (findLoop 4 (codeOf Try.f97)).getD .skip := by rw [hc]; rfl
    cases hd : sh4.dec s with
    | none => rw [hd] at h1; cases h1
    | some v =>
      rw [hd] at h1
      refine ⟨k, ?_⟩
      rw [e1, e2, Shape.dec_enc _ _ _ hd]
      exact (run4 k K k (fl4 v)).trans h1
  have h := not_key q4 h
  cases h
theorem fit (k : Nat) : codeFit (env k) (codeOf Try.f97) = true := by kernel_rfl
theorem lps : (loopsIn (codeOf Try.f97)).map (fun d => findLoop (firstRegion d) (codeOf Try.f97)) = (loopsIn (codeOf Try.f97)).map some := by kernel_rfl
theorem hf : Try.prog.funcs[97]? = some Try.f97 := by kernel_rfl
theorem hb : Try.f97.body = some (codeOf Try.f97) := by kernel_rfl
theorem hn : (Try.f97.name == "runtime.NumGoroutine") = false := by kernel_rfl
theorem hJ (k : Nat) : ∀ C : Ctx, C.P = Try.prog → ∀ r, InlOk C (J k) r := fun C hC r => noInl_ok
theorem sound (k : Nat) : Sound Try.prog 97 (entry k) := func_sound (E := env k) (by kernel_rfl) (by kernel_rfl) (by kernel_rfl) (by kernel_rfl) tbl_nil hf hb hn (fit k) (loops_all lps) (hJ k) (loops k) (eq k)
end spec_l13Best

namespace spec_l13Add
def entry (k : Nat) : Entry := ⟨[.ro (.sl 2 (.int .i64)), .ro (.sl 2 (.int .i64))], [.own (.sl 2 (.int .i64))], fun (a0, (a1, _)) => f k a0 a1⟩
def tbl (k : Nat) : List (Nat × Option Entry) := []
abbrev R := Res [.own (.sl 2 (.int .i64))] × Outs [.ro (.sl 2 (.int .i64)), .ro (.sl 2 (.int .i64))]
def env (k : Nat) : Env := ⟨Try.prog, 27, AM.look none (tbl k), AM.look none [(3, some ⟨[(0, .asis), (1, .asis), (5, .asis), (6, .asis)], [(5, .asis)]⟩)]⟩
def sh3 : Shape := ⟨[(0, .val (.sl 2 (.int .i64))), (1, .val (.sl 2 (.int .i64))), (5, .ref 0), (6, .val (.int .i64))], [(0, .row 2 (.int .i64))], 1, []⟩
def osh3kx0 : Shape := ⟨[(5, .ref 0)], [(0, .row 2 (.int .i64))], 1, []⟩
def un3 : (List Int) × (List Int) × Int × (List Int) → sh3.V := fun (x0, x1, x6, y0) => ((x0, (x1, ((), (x6, ())))), (y0, ()))
def fl3 : sh3.V → (List Int) × (List Int) × Int × (List Int) := fun ((x0, (x1, (_, (x6, _)))), (y0, _)) => (x0, x1, x6, y0)
def L (k : Nat) (q : Nat) (s : St) (K : AExit → St → Option R) : Option R := bif Nat.beq q 3 then (match sh3.dec s with | some v => l3 (R := R) k k (fl3 v) (fun y0 => K (.exit 0) (osh3kx0.enc (((), ()), (y0, ())))) | none => none) else (none)
def J (k : Nat) : Inl R := noInl
theorem step3 (k n : Nat) (K : AExit → St → Option R) : ∀ v, aloop (aexec (env k) (J k) (L k) ((findLoop 3 (codeOf Try.f98)).getD .skip)) (normSt [(0, .asis), (1, .asis), (5, .asis), (6, .asis)]) (normSt [(5, .asis)]) K (n + 1) (sh3.enc (un3 v)) = s3 (R := R) k (fun w => aloop (aexec (env k) (J k) (L k) ((findLoop 3 (codeOf Try.f98)).getD .skip)) (normSt [(0, .asis), (1, .asis), (5, .asis), (6, .asis)]) (normSt [(5, .asis)]) K n (sh3.enc (un3 w))) (fun y0 => K (.exit 0) (osh3kx0.enc (((), ()), (y0, ())))) v := by intro v; kernel_rfl
theorem eq (k : Nat) : ∀ a, aexec (env k) (J k) (L k) (codeOf Try.f98) (begSt [.ro (.sl 2 (.int .i64)), .ro (.sl 2 (.int .i64))] a) (finK (env k) Try.f98 [.ro (.sl 2 (.int .i64)), .ro (.sl 2 (.int .i64))] [.own (.sl 2 (.int .i64))]) = (entry k).fn a := by intro a; kernel_rfl
theorem run3 (k : Nat) (K : AExit → St → Option R) : ∀ n v, aloop (aexec (env k) (J k) (L k) ((findLoop 3 (codeOf Try.f98)).getD .skip)) (normSt [(0, .asis), (1, .asis), (5, .asis), (6, .asis)]) (normSt [(5, .asis)]) K n (sh3.enc (un3 v)) = l3 (R := R) k n v (fun y0 => K (.exit 0) (osh3kx0.enc (((), ()), (y0, ())))) := loop_eq (fun n v => aloop (aexec (env k) (J k) (L k) ((findLoop 3 (codeOf Try.f98)).getD .skip)) (normSt [(0, .asis), (1, .asis), (5, .asis), (6, .asis)]) (normSt [(5, .asis)]) K n (sh3.enc (un3 v))) (fun n v => l3 (R := R) k n v (fun y0 => K (.exit 0) (osh3kx0.enc (((), ()), (y0, ()))))) (fun X v => s3 (R := R) k X (fun y0 => K (.exit 0) (osh3kx0.enc (((), ()), (y0, ())))) v) (fun _ => rfl) (fun n v => step3 k n K v) (fun n v => rfl)
theorem loops (k : Nat) : LoopsOk (env k) (J k) (L k) (codeOf Try.f98) := by
  intro c an hc han s K r h
  unfold L at h
  by_cases q3 : firstRegion c = 3
  · have h1 := key_eq q3 h
    rw [q3] at hc han
    have e2 : an = ⟨[(0, .asis), (1, .asis), (5, .asis), (6, .asis)], [(5, .asis)]⟩ := (Option.some.inj (show some _ = some an from han)).symm
    have e1 : c = (findLoop 3 (codeOf Try.f98)).getD .skip := by rw [hc]; rfl
    cases hd : sh3.dec s with
    | none => rw [hd] at h1; cases h1
    | some v =>
      rw [hd] at h1
      refine ⟨k, ?_⟩
      rw [e1, e2, Shape.dec_enc _ _ _ hd]
      exact (run3 k K k (fl3 v)).trans h1
  have h := not_key q3 h
  cases h
theorem fit (k : Nat) : codeFit (env k) (codeOf Try.f98) = true := by kernel_rfl
theorem lps : (loopsIn (codeOf Try.f98)).map (fun d => findLoop (firstRegion d) (codeOf Try.f98)) = (loopsIn (codeOf Try.f98)).map some := by kernel_rfl
theorem hf : Try.prog.funcs[98]? = some Try.f98 := by kernel_rfl
theorem hb : Try.f98.body = some (codeOf Try.f98) := by kernel_rfl
theorem hn : (Try.f98.name == "runtime.NumGoroutine") = false := by kernel_rfl
theorem hJ (k : Nat) : ∀ C : Ctx, C.P = Try.prog → ∀ r, InlOk C (J k) r := fun C hC r => noInl_ok
theorem sound (k : Nat) : Sound Try.prog 98 (entry k) := func_sound (E := env k) (by kernel_rfl) (by kernel_rfl) (by kernel_rfl) (by kernel_rfl) tbl_nil hf hb hn (fit k) (loops_all lps) (hJ k) (loops k) (eq k)
end spec_l13Add

namespace spec_l13Award
def entry (k : Nat) : Entry := ⟨[.ro (.pair (.int .i64) (.pair (.sl 2 (.int .i64)) .unit)), .ro (.sl 2 (.int .i64)), .ro (.sl 2 (.int .i64)), .ro (.int .i64)], [.own (.sl 2 (.int .i64))], fun (a0, (a1, (a2, (a3, _)))) => f k a0 a1 a2 a3⟩
def tbl (k : Nat) : List (Nat × Option Entry) := [(58, some (spec_l13Split.entry k)), (97, some (spec_l13Best.entry k)), (98, some (spec_l13Add.entry k))]
abbrev R := Res [.own (.sl 2 (.int .i64))] × Outs [.ro (.pair (.int .i64) (.pair (.sl 2 (.int .i64)) .unit)), .ro (.sl 2 (.int .i64)), .ro (.sl 2 (.int .i64)), .ro (.int .i64)]
def env (k : Nat) : Env := ⟨Try.prog, 76, AM.look none (tbl k), AM.look none []⟩
def L (k : Nat) (q : Nat) (s : St) (K : AExit → St → Option R) : Option R := none
def J (k : Nat) : Inl R := noInl
theorem eq (k : Nat) : ∀ a, aexec (env k) (J k) (L k) (codeOf Try.f68) (begSt [.ro (.pair (.int .i64) (.pair (.sl 2 (.int .i64)) .unit)), .ro (.sl 2 (.int .i64)), .ro (.sl 2 (.int .i64)), .ro (.int .i64)] a) (finK (env k) Try.f68 [.ro (.pair (.int .i64) (.pair (.sl 2 (.int .i64)) .unit)), .ro (.sl 2 (.int .i64)), .ro (.sl 2 (.int .i64)), .ro (.int .i64)] [.own (.sl 2 (.int .i64))]) = (entry k).fn a := by intro a; kernel_rfl
theorem loops (k : Nat) : LoopsOk (env k) (J k) (L k) (codeOf Try.f68) := by
  intro c an hc han s K r h
  unfold L at h
  cases h
theorem fit (k : Nat) : codeFit (env k) (codeOf Try.f68) = true := by kernel_rfl
theorem lps : (loopsIn (codeOf Try.f68)).map (fun d => findLoop (firstRegion d) (codeOf Try.f68)) = (loopsIn (codeOf Try.f68)).map some := by kernel_rfl
theorem hf : Try.prog.funcs[68]? = some Try.f68 := by kernel_rfl
theorem hb : Try.f68.body = some (codeOf Try.f68) := by kernel_rfl
theorem hn : (Try.f68.name == "runtime.NumGoroutine") = false := by kernel_rfl
theorem hJ (k : Nat) : ∀ C : Ctx, C.P = Try.prog → ∀ r, InlOk C (J k) r := fun C hC r => noInl_ok
theorem sound (k : Nat) : Sound Try.prog 68 (entry k) := func_sound (E := env k) (by kernel_rfl) (by kernel_rfl) (by kernel_rfl) (by kernel_rfl) (tbl_cons (spec_l13Split.sound k) (tbl_cons (spec_l13Best.sound k) (tbl_cons (spec_l13Add.sound k) tbl_nil))) hf hb hn (fit k) (loops_all lps) (hJ k) (loops k) (eq k)
end spec_l13Award

namespace spec_l13All
def entry (k : Nat) : Entry := ⟨[.ro (.sl 34 (.pair (.int .i64) (.pair (.sl 2 (.int .i64)) .unit))), .ro (.sl 2 (.int .i64)), .ro (.sl 2 (.int .i64)), .ro (.int .i64)], [.own (.sl 2 (.int .i64))], fun (a0, (a1, (a2, (a3, _)))) => f k a0 a1 a2 a3⟩
def tbl (k : Nat) : List (Nat × Option Entry) := [(68, some (spec_l13Award.entry k)), (98, some (spec_l13Add.entry k))]
abbrev R := Res [.own (.sl 2 (.int .i64))] × Outs [.ro (.sl 34 (.pair (.int .i64) (.pair (.sl 2 (.int .i64)) .unit))), .ro (.sl 2 (.int .i64)), .ro (.sl 2 (.int .i64)), .ro (.int .i64)]
def env (k : Nat) : Env := ⟨Try.prog, 31, AM.look none (tbl k), AM.look none [(3, some ⟨[(0, .asis), (1, .asis), (2, .asis), (3, .asis), (9, .asis), (10, .asis)], [(9, .asis)]⟩)]⟩
def sh3 : Shape := ⟨[(0, .val (.sl 34 (.pair (.int .i64) (.pair (.sl 2 (.int .i64)) .unit)))), (1, .val (.sl 2 (.int .i64))), (2, .val (.sl 2 (.int .i64))), (3, .val (.int .i64)), (9, .ref 0), (10, .val (.int .i64))], [(0, .row 2 (.int .i64))], 1, []⟩
def osh3kx0 : Shape := ⟨[(9, .ref 0)], [(0, .row 2 (.int .i64))], 1, []⟩
def un3 : (List (Int × ((List Int) × Unit))) × (List Int) × (List Int) × Int × Int × (List Int) → sh3.V := fun (x0, x1, x2, x3, x10, y0) => ((x0, (x1, (x2, (x3, ((), (x10, ())))))), (y0, ()))
def fl3 : sh3.V → (List (Int × ((List Int) × Unit))) × (List Int) × (List Int) × Int × Int × (List Int) := fun ((x0, (x1, (x2, (x3, (_, (x10, _)))))), (y0, _)) => (x0, x1, x2, x3, x10, y0)
def L (k : Nat) (q : Nat) (s : St) (K : AExit → St → Option R) : Option R := bif Nat.beq q 3 then (match sh3.dec s with | some v => l3 (R := R) k k (fl3 v) (fun y0 => K (.exit 0) (osh3kx0.enc (((), ()), (y0, ())))) | none => none) else (none)
def J (k : Nat) : Inl R := noInl
theorem step3 (k n : Nat) (K : AExit → St → Option R) : ∀ v, aloop (aexec (env k) (J k) (L k) ((findLoop 3 (codeOf Try.f75)).getD .skip)) (normSt [(0, .asis), (1, .asis), (2, .asis), (3, .asis), (9, .asis), (10, .asis)]) (normSt [(9, .asis)]) K (n + 1) (sh3.enc (un3 v)) = s3 (R := R) k (fun w => aloop (aexec (env k) (J k) (L k) ((findLoop 3 (codeOf Try.f75)).getD .skip)) (normSt [(0, .asis), (1, .asis), (2, .asis), (3, .asis), (9, .asis), (10, .asis)]) (normSt [(9, .asis)]) K n (sh3.enc (un3 w))) (fun y0 => K (.exit 0) (osh3kx0.enc (((), ()), (y0, ())))) v := by intro v; kernel_rfl
theorem eq (k : Nat) : ∀ a, aexec (env k) (J k) (L k) (codeOf Try.f75) (begSt [.ro (.sl 34 (.pair (.int .i64) (.pair (.sl 2 (.int .i64)) .unit))), .ro (.sl 2 (.int .i64)), .ro (.sl 2 (.int .i64)), .ro (.int .i64)] a) (finK (env k) Try.f75 [.ro (.sl 34 (.pair (.int .i64) (.pair (.sl 2 (.int .i64)) .unit))), .ro (.sl 2 (.int .i64)), .ro (.sl 2 (.int .i64)), .ro (.int .i64)] [.own (.sl 2 (.int .i64))]) = (entry k).fn a := by intro a; kernel_rfl
theorem run3 (k : Nat) (K : AExit → St → Option R) : ∀ n v, aloop (aexec (env k) (J k) (L k) ((findLoop 3 (codeOf Try.f75)).getD .skip)) (normSt [(0, .asis), (1, .asis), (2, .asis), (3, .asis), (9, .asis), (10, .asis)]) (normSt [(9, .asis)]) K n (sh3.enc (un3 v)) = l3 (R := R) k n v (fun y0 => K (.exit 0) (osh3kx0.enc (((), ()), (y0, ())))) := loop_eq (fun n v => aloop (aexec (env k) (J k) (L k) ((findLoop 3 (codeOf Try.f75)).getD .skip)) (normSt [(0, .asis), (1, .asis), (2, .asis), (3, .asis), (9, .asis), (10, .asis)]) (normSt [(9, .asis)]) K n (sh3.enc (un3 v))) (fun n v => l3 (R := R) k n v (fun y0 => K (.exit 0) (osh3kx0.enc (((), ()), (y0, ()))))) (fun X v => s3 (R := R) k X (fun y0 => K (.exit 0) (osh3kx0.enc (((), ()), (y0, ())))) v) (fun _ => rfl) (fun n v => step3 k n K v) (fun n v => rfl)
theorem loops (k : Nat) : LoopsOk (env k) (J k) (L k) (codeOf Try.f75) := by
  intro c an hc han s K r h
  unfold L at h
  by_cases q3 : firstRegion c = 3
  · have h1 := key_eq q3 h
    rw [q3] at hc han
    have e2 : an = ⟨[(0, .asis), (1, .asis), (2, .asis), (3, .asis), (9, .asis), (10, .asis)], [(9, .asis)]⟩ := (Option.some.inj (show some _ = some an from han)).symm
    have e1 : c = (findLoop 3 (codeOf Try.f75)).getD .skip := by rw [hc]; rfl
    cases hd : sh3.dec s with
    | none => rw [hd] at h1; cases h1
    | some v =>
      rw [hd] at h1
      refine ⟨k, ?_⟩
      rw [e1, e2, Shape.dec_enc _ _ _ hd]
      exact (run3 k K k (fl3 v)).trans h1
  have h := not_key q3 h
  cases h
theorem fit (k : Nat) : codeFit (env k) (codeOf Try.f75) = true := by kernel_rfl
theorem lps : (loopsIn (codeOf Try.f75)).map (fun d => findLoop (firstRegion d) (codeOf Try.f75)) = (loopsIn (codeOf Try.f75)).map some := by kernel_rfl
theorem hf : Try.prog.funcs[75]? = some Try.f75 := by kernel_rfl
theorem hb : Try.f75.body = some (codeOf Try.f75) := by kernel_rfl
theorem hn : (Try.f75.name == "runtime.NumGoroutine") = false := by kernel_rfl
theorem hJ (k : Nat) : ∀ C : Ctx, C.P = Try.prog → ∀ r, InlOk C (J k) r := fun C hC r => noInl_ok
theorem sound (k : Nat) : Sound Try.prog 75 (entry k) := func_sound (E := env k) (by kernel_rfl) (by kernel_rfl) (by kernel_rfl) (by kernel_rfl) (tbl_cons (spec_l13Award.sound k) (tbl_cons (spec_l13Add.sound k) tbl_nil)) hf hb hn (fit k) (loops_all lps) (hJ k) (loops k) (eq k)
end spec_l13All

namespace spec_l02Sorted
def entry (k : Nat) : Entry := ⟨[.ro (.sl 2 (.int .i64))], [.own (.sl 2 (.int .i64))], fun (a0, _) => f k a0⟩
def tbl (k : Nat) : List (Nat × Option Entry) := []
abbrev R := Res [.own (.sl 2 (.int .i64))] × Outs [.ro (.sl 2 (.int .i64))]
def env (k : Nat) : Env := ⟨Try.prog, 46, AM.look none (tbl k), AM.look none [(6, some ⟨[(0, .asis), (3, .asis), (4, .asis), (5, .asis)], [(0, .asis), (3, .asis), (4, .asis), (5, .asis)]⟩), (3, some ⟨[(0, .asis), (3, .asis), (4, .asis)], [(3, .asis)]⟩)]⟩
def sh6 : Shape := ⟨[(0, .val (.sl 2 (.int .i64))), (3, .ref 0), (4, .val (.int .i64)), (5, .val (.int .i64))], [(0, .row 2 (.int .i64))], 1, []⟩
def osh6kx2 : Shape := ⟨[(0, .val (.sl 2 (.int .i64))), (3, .ref 0), (4, .val (.int .i64)), (5, .val (.int .i64))], [(0, .row 2 (.int .i64))], 1, []⟩
def un6 : (List Int) × Int × Int × (List Int) → sh6.V := fun (x0, x4, x5, y0) => ((x0, ((), (x4, (x5, ())))), (y0, ()))
def fl6 : sh6.V → (List Int) × Int × Int × (List Int) := fun ((x0, (_, (x4, (x5, _)))), (y0, _)) => (x0, x4, x5, y0)
def sh3 : Shape := ⟨[(0, .val (.sl 2 (.int .i64))), (3, .ref 0), (4, .val (.int .i64))], [(0, .row 2 (.int .i64))], 1, []⟩
def osh3kx0 : Shape := ⟨[(3, .ref 0)], [(0, .row 2 (.int .i64))], 1, []⟩
def un3 : (List Int) × Int × (List Int) → sh3.V := fun (x0, x4, y0) => ((x0, ((), (x4, ()))), (y0, ()))
def fl3 : sh3.V → (List Int) × Int × (List Int) := fun ((x0, (_, (x4, _))), (y0, _)) => (x0, x4, y0)
def L (k : Nat) (q : Nat) (s : St) (K : AExit → St → Option R) : Option R := bif Nat.beq q 6 then (match sh6.dec s with | some v => l6 (R := R) k k (fl6 v) (fun (x0, x4, x5, y0) => K (.exit 2) (osh6kx2.enc ((x0, ((), (x4, (x5, ())))), (y0, ())))) | none => none) else (bif Nat.beq q 3 then (match sh3.dec s with | some v => l3 (R := R) k k (fl3 v) (fun y0 => K (.exit 0) (osh3kx0.enc (((), ()), (y0, ())))) | none => none) else (none))
def J (k : Nat) : Inl R := noInl
theorem step6 (k n : Nat) (K : AExit → St → Option R) : ∀ v, aloop (aexec (env k) (J k) (L k) ((findLoop 6 (codeOf Try.f115)).getD .skip)) (normSt [(0, .asis), (3, .asis), (4, .asis), (5, .asis)]) (normSt [(0, .asis), (3, .asis), (4, .asis), (5, .asis)]) K (n + 1) (sh6.enc (un6 v)) = s6 (R := R) k (fun w => aloop (aexec (env k) (J k) (L k) ((findLoop 6 (codeOf Try.f115)).getD .skip)) (normSt [(0, .asis), (3, .asis), (4, .asis), (5, .asis)]) (normSt [(0, .asis), (3, .asis), (4, .asis), (5, .asis)]) K n (sh6.enc (un6 w))) (fun (x0, x4, x5, y0) => K (.exit 2) (osh6kx2.enc ((x0, ((), (x4, (x5, ())))), (y0, ())))) v := by intro v; kernel_rfl
theorem step3 (k n : Nat) (K : AExit → St → Option R) : ∀ v, aloop (aexec (env k) (J k) (L k) ((findLoop 3 (codeOf Try.f115)).getD .skip)) (normSt [(0, .asis), (3, .asis), (4, .asis)]) (normSt [(3, .asis)]) K (n + 1) (sh3.enc (un3 v)) = s3 (R := R) k (fun w => aloop (aexec (env k) (J k) (L k) ((findLoop 3 (codeOf Try.f115)).getD .skip)) (normSt [(0, .asis), (3, .asis), (4, .asis)]) (normSt [(3, .asis)]) K n (sh3.enc (un3 w))) (fun y0 => K (.exit 0) (osh3kx0.enc (((), ()), (y0, ())))) v := by intro v; kernel_rfl
theorem eq (k : Nat) : ∀ a, aexec (env k) (J k) (L k) (codeOf Try.f115) (begSt [.ro (.sl 2 (.int .i64))] a) (finK (env k) Try.f115 [.ro (.sl 2 (.int .i64))] [.own (.sl 2 (.int .i64))]) = (entry k).fn a := by intro a; kernel_rfl
theorem run6 (k : Nat) (K : AExit → St → Option R) : ∀ n v, aloop (aexec (env k) (J k) (L k) ((findLoop 6 (codeOf Try.f115)).getD .skip)) (normSt [(0, .asis), (3, .asis), (4, .asis), (5, .asis)]) (normSt [(0, .asis), (3, .asis), (4, .asis), (5, .asis)]) K n (sh6.enc (un6 v)) = l6 (R := R) k n v (fun (x0, x4, x5, y0) => K (.exit 2) (osh6kx2.enc ((x0, ((), (x4, (x5, ())))), (y0, ())))) := loop_eq (fun n v => aloop (aexec (env k) (J k) (L k) ((findLoop 6 (codeOf Try.f115)).getD .skip)) (normSt [(0, .asis), (3, .asis), (4, .asis), (5, .asis)]) (normSt [(0, .asis), (3, .asis), (4, .asis), (5, .asis)]) K n (sh6.enc (un6 v))) (fun n v => l6 (R := R) k n v (fun (x0, x4, x5, y0) => K (.exit 2) (osh6kx2.enc ((x0, ((), (x4, (x5, ())))), (y0, ()))))) (fun X v => s6 (R := R) k X (fun (x0, x4, x5, y0) => K (.exit 2) (osh6kx2.enc ((x0, ((), (x4, (x5, ())))), (y0, ())))) v) (fun _ => rfl) (fun n v => step6 k n K v) (fun n v => rfl)
theorem run3 (k : Nat) (K : AExit → St → Option R) : ∀ n v, aloop (aexec (env k) (J k) (L k) ((findLoop 3 (codeOf Try.f115)).getD .skip)) (normSt [(0, .asis), (3, .asis), (4, .asis)]) (normSt [(3, .asis)]) K n (sh3.enc (un3 v)) = l3 (R := R) k n v (fun y0 => K (.exit 0) (osh3kx0.enc (((), ()), (y0, ())))) := loop_eq (fun n v => aloop (aexec (env k) (J k) (L k) ((findLoop 3 (codeOf Try.f115)).getD .skip)) (normSt [(0, .asis), (3, .asis), (4, .asis)]) (normSt [(3, .asis)]) K n (sh3.enc (un3 v))) (fun n v => l3 (R := R) k n v (fun y0 => K (.exit 0) (osh3kx0.enc (((), ()), (y0, ()))))) (fun X v => s3 (R := R) k X (fun y0 => K (.exit 0) (osh3kx0.enc (((), ()), (y0, ())))) v) (fun _ => rfl) (fun n v => step3 k n K v) (fun n v => rfl)
theorem loops (k : Nat) : LoopsOk (env k) (J k) (L k) (codeOf Try.f115) := by
  intro c an hc han s K r h
  unfold L at h
  by_cases q6 : firstRegion c = 6
  · have h1 := key_eq q6 h
    rw [q6] at hc han
    have e2 : an = ⟨[(0, .asis), (3, .asis), (4, .asis), (5, .asis)], [(0, .asis), (3, .asis), (4, .asis), (5, .asis)]⟩ := (Option.some.inj (show some _ = some an from han)).symm
    have e1 : c = (findLoop 6 (codeOf Try.f115)).getD .skip := by rw [hc]; rfl
    cases hd : sh6.dec s with
    | none => rw [hd] at h1; cases h1
    | some v =>
      rw [hd] at h1
      refine ⟨k, ?_⟩
      rw [e1, e2, Shape.dec_enc _ _ _ hd]
      exact (run6 k K k (fl6 v)).trans h1
  have h := not_key q6 h
  by_cases q3 : firstRegion c = 3
  · have h1 := key_eq q3 h
    rw [q3] at hc han
    have e2 : an = ⟨[(0, .asis), (3, .asis), (4, .asis)], [(3, .asis)]⟩ := (Option.some.inj (show some _ = some an from han)).symm
    have e1 : c = (findLoop 3 (codeOf Try.f115)).getD .skip := by rw [hc]; rfl
    cases hd : sh3.dec s with
    | none => rw [hd] at h1; cases h1
    | some v =>
      rw [hd] at h1
      refine ⟨k, ?_⟩
      rw [e1, e2, Shape.dec_enc _ _ _ hd]
      exact (run3 k K k (fl3 v)).trans h1
  have h := not_key q3 h
  cases h
theorem fit (k : Nat) : codeFit (env k) (codeOf Try.f115) = true := by kernel_rfl
theorem lps : (loopsIn (codeOf Try.f115)).map (fun d => findLoop (firstRegion d) (codeOf Try.f115)) = (loopsIn (codeOf Try.f115)).map some := by kernel_rfl
theorem hf : Try.prog.funcs[115]? = some Try.f115 := by kernel_rfl
theorem hb : Try.f115.body = some (codeOf Try.f115) := by kernel_rfl
theorem hn : (Try.f115.name == "runtime.NumGoroutine") = false := by kernel_rfl
theorem hJ (k : Nat) : ∀ C : Ctx, C.P = Try.prog → ∀ r, InlOk C (J k) r := fun C hC r => noInl_ok
theorem sound (k : Nat) : Sound Try.prog 115 (entry k) := func_sound (E := env k) (by kernel_rfl) (by kernel_rfl) (by kernel_rfl) (by kernel_rfl) tbl_nil hf hb hn (fit k) (loops_all lps) (hJ k) (loops k) (eq k)
end spec_l02Sorted

namespace spec_l12Levels
def entry (k : Nat) : Entry := ⟨[.ro (.sl 2 (.int .i64)), .ro (.sl 4 .bool)], [.own (.sl 2 (.int .i64))], fun (a0, (a1, _)) => f k a0 a1⟩
def tbl (k : Nat) : List (Nat × Option Entry) := [(94, some (spec_l01Has.entry k)), (115, some (spec_l02Sorted.entry k))]
abbrev R := Res [.own (.sl 2 (.int .i64))] × Outs [.ro (.sl 2 (.int .i64)), .ro (.sl 4 .bool)]
def env (k : Nat) : Env := ⟨Try.prog, 44, AM.look none (tbl k), AM.look none [(3, some ⟨[(0, .asis), (1, .asis), (5, .asis), (6, .asis)], [(5, .asis)]⟩)]⟩
def sh3 : Shape := ⟨[(0, .val (.sl 2 (.int .i64))), (1, .val (.sl 4 .bool)), (5, .ref 0), (6, .val (.int .i64))], [(0, .row 2 (.int .i64))], 1, []⟩
def osh3kx0 : Shape := ⟨[(5, .ref 0)], [(0, .row 2 (.int .i64))], 1, []⟩
def un3 : (List Int) × (List Bool) × Int × (List Int) → sh3.V := fun (x0, x1, x6, y0) => ((x0, (x1, ((), (x6, ())))), (y0, ()))
def fl3 : sh3.V → (List Int) × (List Bool) × Int × (List Int) := fun ((x0, (x1, (_, (x6, _)))), (y0, _)) => (x0, x1, x6, y0)
def L (k : Nat) (q : Nat) (s : St) (K : AExit → St → Option R) : Option R := bif Nat.beq q 3 then (match sh3.dec s with | some v => l3 (R := R) k k (fl3 v) (fun y0 => K (.exit 0) (osh3kx0.enc (((), ()), (y0, ())))) | none => none) else (none)
def J (k : Nat) : Inl R := noInl
theorem step3 (k n : Nat) (K : AExit → St → Option R) : ∀ v, aloop (aexec (env k) (J k) (L k) ((findLoop 3 (codeOf Try.f112)).getD .skip)) (normSt [(0, .asis), (1, .asis), (5, .asis), (6, .asis)]) (normSt [(5, .asis)]) K (n + 1) (sh3.enc (un3 v)) = s3 (R := R) k (fun w => aloop (aexec (env k) (J k) (L k) ((findLoop 3 (codeOf Try.f112)).getD .skip)) (normSt [(0, .asis), (1, .asis), (5, .asis), (6, .asis)]) (normSt [(5, .asis)]) K n (sh3.enc (un3 w))) (fun y0 => K (.exit 0) (osh3kx0.enc (((), ()), (y0, ())))) v := by intro v; kernel_rfl
theorem eq (k : Nat) : ∀ a, aexec (env k) (J k) (L k) (codeOf Try.f112) (begSt [.ro (.sl 2 (.int .i64)), .ro (.sl 4 .bool)] a) (finK (env k) Try.f112 [.ro (.sl 2 (.int .i64)), .ro (.sl 4 .bool)] [.own (.sl 2 (.int .i64))]) = (entry k).fn a := by intro a; kernel_rfl
theorem run3 (k : Nat) (K : AExit → St → Option R) : ∀ n v, aloop (aexec (env k) (J k) (L k) ((findLoop 3 (codeOf Try.f112)).getD .skip)) (normSt [(0, .asis), (1, .asis), (5, .asis), (6, .asis)]) (normSt [(5, .asis)]) K n (sh3.enc (un3 v)) = l3 (R := R) k n v (fun y0 => K (.exit 0) (osh3kx0.enc (((), ()), (y0, ())))) := loop_eq (fun n v => aloop (aexec (env k) (J k) (L k) ((findLoop 3 (codeOf Try.f112)).getD .skip)) (normSt [(0, .asis), (1, .asis), (5, .asis), (6, .asis)]) (normSt [(5, .asis)]) K n (sh3.enc (un3 v))) (fun n v => l3 (R := R) k n v (fun y0 => K (.exit 0) (osh3kx0.enc (((), ()), (y0, ()))))) (fun X v => s3 (R := R) k X (fun y0 => K (.exit 0) (osh3kx0.enc (((), ()), (y0, ())))) v) (fun _ => rfl) (fun n v => step3 k n K v) (fun n v => rfl)
theorem loops (k : Nat) : LoopsOk (env k) (J k) (L k) (codeOf Try.f112) := by
  intro c an hc han s K r h
  unfold L at h
  by_cases q3 : firstRegion c = 3
  · have h1 := key_eq q3 h
    rw [q3] at hc han
    have e2 : an = ⟨[(0, .asis), (1, .asis), (5, .asis), (6, .asis)], [(5, .asis)]⟩ := (Option.some.inj (show some _ = some an from han)).symm
    have e1 : c = (findLoop 3 (codeOf Try.f112)).getD .skip := by rw [hc]; rfl
    cases hd : sh3.dec s with
    | none => rw [hd] at h1; cases h1
    | some v =>
      rw [hd] at h1
      refine ⟨k, ?_⟩
      rw [e1, e2, Shape.dec_enc _ _ _ hd]
      exact (run3 k K k (fl3 v)).trans h1
  have h := not_key q3 h
  cases h
theorem fit (k : Nat) : codeFit (env k) (codeOf Try.f112) = true := by kernel_rfl
theorem lps : (loopsIn (codeOf Try.f112)).map (fun d => findLoop (firstRegion d) (codeOf Try.f112)) = (loopsIn (codeOf Try.f112)).map some := by kernel_rfl
theorem hf : Try.prog.funcs[112]? = some Try.f112 := by kernel_rfl
theorem hb : Try.f112.body = some (codeOf Try.f112) := by kernel_rfl
theorem hn : (Try.f112.name == "runtime.NumGoroutine") = false := by kernel_rfl
theorem hJ (k : Nat) : ∀ C : Ctx, C.P = Try.prog → ∀ r, InlOk C (J k) r := fun C hC r => noInl_ok
theorem sound (k : Nat) : Sound Try.prog 112 (entry k) := func_sound (E := env k) (by kernel_rfl) (by kernel_rfl) (by kernel_rfl) (by kernel_rfl) (tbl_cons (spec_l01Has.sound k) (tbl_cons (spec_l02Sorted.sound k) tbl_nil)) hf hb hn (fit k) (loops_all lps) (hJ k) (loops k) (eq k)
end spec_l12Levels

namespace spec_l12Pots
def entry (k : Nat) : Entry := ⟨[.ro (.sl 2 (.int .i64)), .ro (.sl 4 .bool)], [.own (.sl 34 (.pair (.int .i64) (.pair (.sl 2 (.int .i64)) .unit)))], fun (a0, (a1, _)) => f k a0 a1⟩
def tbl (k : Nat) : List (Nat × Option Entry) := [(112, some (spec_l12Levels.entry k))]
abbrev R := Res [.own (.sl 34 (.pair (.int .i64) (.pair (.sl 2 (.int .i64)) .unit)))] × Outs [.ro (.sl 2 (.int .i64)), .ro (.sl 4 .bool)]
def env (k : Nat) : Env := ⟨Try.prog, 105, AM.look none (tbl k), AM.look none [(10, some ⟨[(0, .asis), (1, .asis), (5, .asis), (6, .asis), (7, .asis), (8, .asis), (9, .asis), (10, .asis), (11, .asis)], [(0, .asis), (1, .asis), (5, .asis), (6, .asis), (8, .asis), (9, .asis), (10, .asis)]⟩), (5, some ⟨[(0, .asis), (1, .asis), (5, .asis), (6, .asis), (7, .asis), (8, .asis)], [(6, .asis)]⟩)]⟩
def sh10 : Shape := ⟨[(0, .val (.sl 2 (.int .i64))), (1, .val (.sl 4 .bool)), (5, .ref 0), (6, .ref 1), (7, .val (.int .i64)), (8, .val (.int .i64)), (9, .pc 2 0), (10, .ref 3), (11, .val (.int .i64))], [(0, .row 2 (.int .i64)), (1, .row 34 (.pair (.int .i64) (.pair (.sl 2 (.int .i64)) .unit))), (2, .cell [.val (.int .i64), .nils]), (3, .row 2 (.int .i64))], 4, []⟩
def osh10kx2 : Shape := ⟨[(0, .val (.sl 2 (.int .i64))), (1, .val (.sl 4 .bool)), (5, .ref 0), (6, .ref 1), (8, .val (.int .i64)), (9, .pc 2 0), (10, .ref 3)], [(0, .row 2 (.int .i64)), (1, .row 34 (.pair (.int .i64) (.pair (.sl 2 (.int .i64)) .unit))), (2, .cell [.val (.int .i64), .nils]), (3, .row 2 (.int .i64))], 4, []⟩
def un10 : (List Int) × (List Bool) × Int × Int × Int × (List Int) × (List (Int × ((List Int) × Unit))) × Int × (List Int) → sh10.V := fun (x0, x1, x7, x8, x11, y0, y1, z2_0, y3) => ((x0, (x1, ((), ((), (x7, (x8, ((), ((), (x11, ()))))))))), (y0, (y1, ((z2_0, ((), ())), (y3, ())))))
def fl10 : sh10.V → (List Int) × (List Bool) × Int × Int × Int × (List Int) × (List (Int × ((List Int) × Unit))) × Int × (List Int) := fun ((x0, (x1, (_, (_, (x7, (x8, (_, (_, (x11, _))))))))), (y0, (y1, ((z2_0, (_, _)), (y3, _))))) => (x0, x1, x7, x8, x11, y0, y1, z2_0, y3)
def sh5 : Shape := ⟨[(0, .val (.sl 2 (.int .i64))), (1, .val (.sl 4 .bool)), (5, .ref 0), (6, .ref 1), (7, .val (.int .i64)), (8, .val (.int .i64))], [(0, .row 2 (.int .i64)), (1, .row 34 (.pair (.int .i64) (.pair (.sl 2 (.int .i64)) .unit)))], 2, []⟩
def osh5kx0 : Shape := ⟨[(6, .ref 0)], [(0, .row 34 (.pair (.int .i64) (.pair (.sl 2 (.int .i64)) .unit)))], 1, []⟩
def un5 : (List Int) × (List Bool) × Int × Int × (List Int) × (List (Int × ((List Int) × Unit))) → sh5.V := fun (x0, x1, x7, x8, y0, y1) => ((x0, (x1, ((), ((), (x7, (x8, ())))))), (y0, (y1, ())))
def fl5 : sh5.V → (List Int) × (List Bool) × Int × Int × (List Int) × (List (Int × ((List Int) × Unit))) := fun ((x0, (x1, (_, (_, (x7, (x8, _)))))), (y0, (y1, _))) => (x0, x1, x7, x8, y0, y1)
def L (k : Nat) (q : Nat) (s : St) (K : AExit → St → Option R) : Option R := bif Nat.beq q 10 then (match sh10.dec s with | some v => l10 (R := R) k k (fl10 v) (fun (x0, x1, x8, y0, y1, z2_0, y3) => K (.exit 2) (osh10kx2.enc ((x0, (x1, ((), ((), (x8, ((), ((), ()))))))), (y0, (y1, ((z2_0, ((), ())), (y3, ()))))))) | none => none) else (bif Nat.beq q 5 then (match sh5.dec s with | some v => l5 (R := R) k k (fl5 v) (fun y0 => K (.exit 0) (osh5kx0.enc (((), ()), (y0, ())))) | none => none) else (none))
def J (k : Nat) : Inl R := noInl
theorem step10 (k n : Nat) (K : AExit → St → Option R) : ∀ v, aloop (aexec (env k) (J k) (L k) ((findLoop 10 (codeOf Try.f102)).getD .skip)) (normSt [(0, .asis), (1, .asis), (5, .asis), (6, .asis), (7, .asis), (8, .asis), (9, .asis), (10, .asis), (11, .asis)]) (normSt [(0, .asis), (1, .asis), (5, .asis), (6, .asis), (8, .asis), (9, .asis), (10, .asis)]) K (n + 1) (sh10.enc (un10 v)) = s10 (R := R) k (fun w => aloop (aexec (env k) (J k) (L k) ((findLoop 10 (codeOf Try.f102)).getD .skip)) (normSt [(0, .asis), (1, .asis), (5, .asis), (6, .asis), (7, .asis), (8, .asis), (9, .asis), (10, .asis), (11, .asis)]) (normSt [(0, .asis), (1, .asis), (5, .asis), (6, .asis), (8, .asis), (9, .asis), (10, .asis)]) K n (sh10.enc (un10 w))) (fun (x0, x1, x8, y0, y1, z2_0, y3) => K (.exit 2) (osh10kx2.enc ((x0, (x1, ((), ((), (x8, ((), ((), ()))))))), (y0, (y1, ((z2_0, ((), ())), (y3, ()))))))) v := by intro v; kernel_rfl
theorem step5 (k n : Nat) (K : AExit → St → Option R) : ∀ v, aloop (aexec (env k) (J k) (L k) ((findLoop 5 (codeOf Try.f102)).getD .skip)) (normSt [(0, .asis), (1, .asis), (5, .asis), (6, .asis), (7, .asis), (8, .asis)]) (normSt [(6, .asis)]) K (n + 1) (sh5.enc (un5 v)) = s5 (R := R) k (fun w => aloop (aexec (env k) (J k) (L k) ((findLoop 5 (codeOf Try.f102)).getD .skip)) (normSt [(0, .asis), (1, .asis), (5, .asis), (6, .asis), (7, .asis), (8, .asis)]) (normSt [(6, .asis)]) K n (sh5.enc (un5 w))) (fun y0 => K (.exit 0) (osh5kx0.enc (((), ()), (y0, ())))) v := by intro v; kernel_rfl
theorem eq (k : Nat) : ∀ a, aexec (env k) (J k) (L k) (codeOf Try.f102) (begSt [.ro (.sl 2 (.int .i64)), .ro (.sl 4 .bool)] a) (finK (env k) Try.f102 [.ro (.sl 2 (.int .i64)), .ro (.sl 4 .bool)] [.own (.sl 34 (.pair (.int .i64) (.pair (.sl 2 (.int .i64)) .unit)))]) = (entry k).fn a := by intro a; kernel_rfl
theorem run10 (k : Nat) (K : AExit → St → Option R) : ∀ n v, aloop (aexec (env k) (J k) (L k) ((findLoop 10 (codeOf Try.f102)).getD .skip)) (normSt [(0, .asis), (1, .asis), (5, .asis), (6, .asis), (7, .asis), (8, .asis), (9, .asis), (10, .asis), (11, .asis)]) (normSt [(0, .asis), (1, .asis), (5, .asis), (6, .asis), (8, .asis), (9, .asis), (10, .asis)]) K n (sh10.enc (un10 v)) = l10 (R := R) k n v (fun (x0, x1, x8, y0, y1, z2_0, y3) => K (.exit 2) (osh10kx2.enc ((x0, (x1, ((), ((), (x8, ((), ((), ()))))))), (y0, (y1, ((z2_0, ((), ())), (y3, ()))))))) := loop_eq (fun n v => aloop (aexec (env k) (J k) (L k) ((findLoop 10 (codeOf Try.f102)).getD .skip)) (normSt [(0, .asis), (1, .asis), (5, .asis), (6, .asis), (7, .asis), (8, .asis), (9, .asis), (10, .asis), (11, .asis)]) (normSt [(0, .asis), (1, .asis), (5, .asis), (6, .asis), (8, .asis), (9, .asis), (10, .asis)]) K n (sh10.enc (un10 v))) (fun n v => l10 (R := R) k n v (fun (x0, x1, x8, y0, y1, z2_0, y3) => K (.exit 2) (osh10kx2.enc ((x0, (x1, ((), ((), (x8, ((), ((), ()))))))), (y0, (y1, ((z2_0, ((), ())), (y3, ())))))))) (fun X v => s10 (R := R) k X (fun (x0, x1, x8, y0, y1, z2_0, y3) => K (.exit 2) (osh10kx2.enc ((x0, (x1, ((), ((), (x8, ((), ((), ()))))))), (y0, (y1, ((z2_0, ((), ())), (y3, ()))))))) v) (fun _ => rfl) (fun n v => step10 k n K v) (fun n v => rfl)
theorem run5 (k : Nat) (K : AExit → St → Option R) : ∀ n v, aloop (aexec (env k) (J k) (L k) ((findLoop 5 (codeOf Try.f102)).getD .skip)) (normSt [(0, .asis), (1, .asis), (5, .asis), (6, .asis), (7, .asis), (8, .asis)]) (normSt [(6, .asis)]) K n (sh5.enc (un5 v)) = l5 (R := R) k n v (fun y0 => K (.exit 0) (osh5kx0.enc (((), ()), (y0, ())))) := loop_eq (fun n v => aloop (aexec (env k) (J k) (L k) ((findLoop 5 (codeOf Try.f102)).getD .skip)) (normSt [(0, .asis), (1, .asis), (5, .asis), (6, .asis), (7, .asis), (8, .asis)]) (normSt [(6, .asis)]) K n (sh5.enc (un5 v))) (fun n v => l5 (R := R) k n v (fun y0 => K (.exit 0) (osh5kx0.enc (((), ()), (y0, ()))))) (fun X v => s5 (R := R) k X (fun y0 => K (.exit 0) (osh5kx0.enc (((), ()), (y0, ())))) v) (fun _ => rfl) (fun n v => step5 k n K v) (fun n v => rfl)
theorem loops (k : Nat) : LoopsOk (env k) (J k) (L k) (codeOf Try.f102) := by
  intro c an hc han s K r h
  unfold L at h
  by_cases q10 : firstRegion c = 10
  · have h1 := key_eq q10 h
    rw [q10] at hc han
    have e2 : an = ⟨[(0, .asis), (1, .asis), (5, .asis), (6, .asis), (7, .asis), (8, .asis), (9, .asis), (10, .asis), (11, .asis)], [(0, .asis), (1, .asis), (5, .asis), (6, .asis), (8, .asis), (9, .asis), (10, .asis)]⟩ := (Option.some.inj (show some _ = some an from han)).symm
    have e1 : c = (findLoop 10 (codeOf Try.f102)).getD .skip := by rw [hc]; rfl
    cases hd : sh10.dec s with
    | none => rw [hd] at h1; cases h1
    | some v =>
      rw [hd] at h1
      refine ⟨k, ?_⟩
      rw [e1, e2, Shape.dec_enc _ _ _ hd]
      exact (run10 k K k (fl10 v)).trans h1
  have h := not_key q10 h
  by_cases q5 : firstRegion c = 5
  · have h1 := key_eq q5 h
    rw [q5] at hc han
    have e2 : an = ⟨[(0, .asis), (1, .asis), (5, .asis), (6, .asis), (7, .asis), (8, .asis)], [(6, .asis)]⟩ := (Option.some.inj (show some _ = some an from han)).symm
    have e1 : c = (findLoop 5 (codeOf Try.f102)).getD .skip := by rw [hc]; rfl
    cases hd : sh5.dec s with
    | none => rw [hd] at h1; cases h1
    | some v =>
      rw [hd] at h1
      refine ⟨k, ?_⟩
      rw [e1, e2, Shape.dec_enc _ _ _ hd]
      exact (run5 k K k (fl5 v)).trans h1
  have h := not_key q5 h
  cases h
theorem fit (k : Nat) : codeFit (env k) (codeOf Try.f102) = true := by kernel_rfl
theorem lps : (loopsIn (codeOf Try.f102)).map (fun d => findLoop (firstRegion d) (codeOf Try.f102)) = (loopsIn (codeOf Try.f102)).map some := by kernel_rfl
theorem hf : Try.prog.funcs[102]? = some Try.f102 := by kernel_rfl
theorem hb : Try.f102.body = some (codeOf Try.f102) := by kernel_rfl
theorem hn : (Try.f102.name == "runtime.NumGoroutine") = false := by kernel_rfl
theorem hJ (k : Nat) : ∀ C : Ctx, C.P = Try.prog → ∀ r, InlOk C (J k) r := fun C hC r => noInl_ok
theorem sound (k : Nat) : Sound Try.prog 102 (entry k) := func_sound (E := env k) (by kernel_rfl) (by kernel_rfl) (by kernel_rfl) (by kernel_rfl) (tbl_cons (spec_l12Levels.sound k) tbl_nil) hf hb hn (fit k) (loops_all lps) (hJ k) (loops k) (eq k)
end spec_l12Pots

namespace spec_l01Own
def entry (k : Nat) : Entry := ⟨[.ro (.sl 2 (.int .i64))], [.own (.sl 2 (.int .i64))], fun (a0, _) => f k a0⟩
def tbl (k : Nat) : List (Nat × Option Entry) := []
abbrev R := Res [.own (.sl 2 (.int .i64))] × Outs [.ro (.sl 2 (.int .i64))]
def env (k : Nat) : Env := ⟨Try.prog, 6, AM.look none (tbl k), AM.look none []⟩
def L (k : Nat) (q : Nat) (s : St) (K : AExit → St → Option R) : Option R := none
def J (k : Nat) : Inl R := noInl
theorem eq (k : Nat) : ∀ a, aexec (env k) (J k) (L k) (codeOf Try.f86) (begSt [.ro (.sl 2 (.int .i64))] a) (finK (env k) Try.f86 [.ro (.sl 2 (.int .i64))] [.own (.sl 2 (.int .i64))]) = (entry k).fn a := by intro a; kernel_rfl
theorem loops (k : Nat) : LoopsOk (env k) (J k) (L k) (codeOf Try.f86) := by
  intro c an hc han s K r h
  unfold L at h
  cases h
theorem fit (k : Nat) : codeFit (env k) (codeOf Try.f86) = true := by kernel_rfl
theorem lps : (loopsIn (codeOf Try.f86)).map (fun d => findLoop (firstRegion d) (codeOf Try.f86)) = (loopsIn (codeOf Try.f86)).map some := by kernel_rfl
theorem hf : Try.prog.funcs[86]? = some Try.f86 := by kernel_rfl
theorem hb : Try.f86.body = some (codeOf Try.f86) := by kernel_rfl
theorem hn : (Try.f86.name == "runtime.NumGoroutine") = false := by kernel_rfl
theorem hJ (k : Nat) : ∀ C : Ctx, C.P = Try.prog → ∀ r, InlOk C (J k) r := fun C hC r => noInl_ok
theorem sound (k : Nat) : Sound Try.prog 86 (entry k) := func_sound (E := env k) (by kernel_rfl) (by kernel_rfl) (by kernel_rfl) (by kernel_rfl) tbl_nil hf hb hn (fit k) (loops_all lps) (hJ k) (loops k) (eq k)
end spec_l01Own

namespace spec_l12Uncalled
def entry (k : Nat) : Entry := ⟨[.ro (.sl 2 (.int .i64))], [.own (.int .i64), .own (.int .i64)], fun (a0, _) => f k a0⟩
def tbl (k : Nat) : List (Nat × Option Entry) := []
abbrev R := Res [.own (.int .i64), .own (.int .i64)] × Outs [.ro (.sl 2 (.int .i64))]
def env (k : Nat) : Env := ⟨Try.prog, 52, AM.look none (tbl k), AM.look none [(3, some ⟨[(0, .asis), (4, .asis), (5, .asis)], [(0, .asis), (4, .asis)]⟩), (9, some ⟨[(0, .asis), (4, .asis), (6, .asis), (7, .asis)], [(0, .asis), (4, .asis), (6, .asis)]⟩)]⟩
def sh3 : Shape := ⟨[(0, .val (.sl 2 (.int .i64))), (4, .val (.int .i64)), (5, .val (.int .i64))], [], 0, []⟩
def osh3kx0 : Shape := ⟨[(0, .val (.sl 2 (.int .i64))), (4, .val (.int .i64))], [], 0, []⟩
def un3 : (List Int) × Int × Int → sh3.V := fun (x0, x4, x5) => ((x0, (x4, (x5, ()))), ())
def fl3 : sh3.V → (List Int) × Int × Int := fun ((x0, (x4, (x5, _))), _) => (x0, x4, x5)
def sh9 : Shape := ⟨[(0, .val (.sl 2 (.int .i64))), (4, .val (.int .i64)), (6, .val (.int .i64)), (7, .val (.int .i64))], [], 0, []⟩
def osh9kx2 : Shape := ⟨[(0, .val (.sl 2 (.int .i64))), (4, .val (.int .i64)), (6, .val (.int .i64))], [], 0, []⟩
def un9 : (List Int) × Int × Int × Int → sh9.V := fun (x0, x4, x6, x7) => ((x0, (x4, (x6, (x7, ())))), ())
def fl9 : sh9.V → (List Int) × Int × Int × Int := fun ((x0, (x4, (x6, (x7, _)))), _) => (x0, x4, x6, x7)
def L (k : Nat) (q : Nat) (s : St) (K : AExit → St → Option R) : Option R := bif Nat.beq q 3 then (match sh3.dec s with | some v => l3 (R := R) k k (fl3 v) (fun (x0, x4) => K (.exit 0) (osh3kx0.enc ((x0, (x4, ())), ()))) | none => none) else (bif Nat.beq q 9 then (match sh9.dec s with | some v => l9 (R := R) k k (fl9 v) (fun (x0, x4, x6) => K (.exit 2) (osh9kx2.enc ((x0, (x4, (x6, ()))), ()))) | none => none) else (none))
def J (k : Nat) : Inl R := noInl
theorem step3 (k n : Nat) (K : AExit → St → Option R) : ∀ v, aloop (aexec (env k) (J k) (L k) ((findLoop 3 (codeOf Try.f104)).getD .skip)) (normSt [(0, .asis), (4, .asis), (5, .asis)]) (normSt [(0, .asis), (4, .asis)]) K (n + 1) (sh3.enc (un3 v)) = s3 (R := R) k (fun w => aloop (aexec (env k) (J k) (L k) ((findLoop 3 (codeOf Try.f104)).getD .skip)) (normSt [(0, .asis), (4, .asis), (5, .asis)]) (normSt [(0, .asis), (4, .asis)]) K n (sh3.enc (un3 w))) (fun (x0, x4) => K (.exit 0) (osh3kx0.enc ((x0, (x4, ())), ()))) v := by intro v; kernel_rfl
theorem step9 (k n : Nat) (K : AExit → St → Option R) : ∀ v, aloop (aexec (env k) (J k) (L k) ((findLoop 9 (codeOf Try.f104)).getD .skip)) (normSt [(0, .asis), (4, .asis), (6, .asis), (7, .asis)]) (normSt [(0, .asis), (4, .asis), (6, .asis)]) K (n + 1) (sh9.enc (un9 v)) = s9 (R := R) k (fun w => aloop (aexec (env k) (J k) (L k) ((findLoop 9 (codeOf Try.f104)).getD .skip)) (normSt [(0, .asis), (4, .asis), (6, .asis), (7, .asis)]) (normSt [(0, .asis), (4, .asis), (6, .asis)]) K n (sh9.enc (un9 w))) (fun (x0, x4, x6) => K (.exit 2) (osh9kx2.enc ((x0, (x4, (x6, ()))), ()))) v := by intro v; kernel_rfl
theorem eq (k : Nat) : ∀ a, aexec (env k) (J k) (L k) (codeOf Try.f104) (begSt [.ro (.sl 2 (.int .i64))] a) (finK (env k) Try.f104 [.ro (.sl 2 (.int .i64))] [.own (.int .i64), .own (.int .i64)]) = (entry k).fn a := by intro a; kernel_rfl
theorem run3 (k : Nat) (K : AExit → St → Option R) : ∀ n v, aloop (aexec (env k) (J k) (L k) ((findLoop 3 (codeOf Try.f104)).getD .skip)) (normSt [(0, .asis), (4, .asis), (5, .asis)]) (normSt [(0, .asis), (4, .asis)]) K n (sh3.enc (un3 v)) = l3 (R := R) k n v (fun (x0, x4) => K (.exit 0) (osh3kx0.enc ((x0, (x4, ())), ()))) := loop_eq (fun n v => aloop (aexec (env k) (J k) (L k) ((findLoop 3 (codeOf Try.f104)).getD .skip)) (normSt [(0, .asis), (4, .asis), (5, .asis)]) (normSt [(0, .asis), (4, .asis)]) K n (sh3.enc (un3 v))) (fun n v => l3 (R := R) k n v (fun (x0, x4) => K (.exit 0) (osh3kx0.enc ((x0, (x4, ())), ())))) (fun X v => s3 (R := R) k X (fun (x0, x4) => K (.exit 0) (osh3kx0.enc ((x0, (x4, ())), ()))) v) (fun _ => rfl) (fun n v => step3 k n K v) (fun n v => rfl)
theorem run9 (k : Nat) (K : AExit → St → Option R) : ∀ n v, aloop (aexec (env k) (J k) (L k) ((findLoop 9 (codeOf Try.f104)).getD .skip)) (normSt [(0, .asis), (4, .asis), (6, .asis), (7, .asis)]) (normSt [(0, .asis), (4, .asis), (6, .asis)]) K n (sh9.enc (un9 v)) = l9 (R := R) k n v (fun (x0, x4, x6) => K (.exit 2) (osh9kx2.enc ((x0, (x4, (x6, ()))), ()))) := loop_eq (fun n v => aloop (aexec (env k) (J k) (L k) ((findLoop 9 (codeOf Try.f104)).getD .skip)) (normSt [(0, .asis), (4, .asis), (6, .asis), (7, .asis)]) (normSt [(0, .asis), (4, .asis), (6, .asis)]) K n (sh9.enc (un9 v))) (fun n v => l9 (R := R) k n v (fun (x0, x4, x6) => K (.exit 2) (osh9kx2.enc ((x0, (x4, (x6, ()))), ())))) (fun X v => s9 (R := R) k X (fun (x0, x4, x6) => K (.exit 2) (osh9kx2.enc ((x0, (x4, (x6, ()))), ()))) v) (fun _ => rfl) (fun n v => step9 k n K v) (fun n v => rfl)
theorem loops (k : Nat) : LoopsOk (env k) (J k) (L k) (codeOf Try.f104) := by
  intro c an hc han s K r h
  unfold L at h
  by_cases q3 : firstRegion c = 3
  · have h1 := key_eq q3 h
    rw [q3] at hc han
    have e2 : an = ⟨[(0, .asis), (4, .asis), (5, .asis)], [(0, .asis), (4, .asis)]⟩ := (Option.some.inj (show some _ = some an from han)).symm
    have e1 : c = (findLoop 3 (codeOf Try.f104)).getD .skip := by rw [hc]; rfl
    cases hd : sh3.dec s with
    | none => rw [hd] at h1; cases h1
    | some v =>
      rw [hd] at h1
      refine ⟨k, ?_⟩
      rw [e1, e2, Shape.dec_enc _ _ _ hd]
      exact (run3 k K k (fl3 v)).trans h1
  have h := not_key q3 h
  by_cases q9 : firstRegion c = 9
  · have h1 := key_eq q9 h
    rw [q9] at hc han
    have e2 : an = ⟨[(0, .asis), (4, .asis), (6, .asis), (7, .asis)], [(0, .asis), (4, .asis), (6, .asis)]⟩ := (Option.some.inj (show some _ = some an from han)).symm
    have e1 : c = (findLoop 9 (codeOf Try.f104)).getD .skip := by rw [hc]; rfl
    cases hd : sh9.dec s with
    | none => rw [hd] at h1; cases h1
    | some v =>
      rw [hd] at h1
      refine ⟨k, ?_⟩
      rw [e1, e2, Shape.dec_enc _ _ _ hd]
      exact (run9 k K k (fl9 v)).trans h1
  have h := not_key q9 h
  cases h
theorem fit (k : Nat) : codeFit (env k) (codeOf Try.f104) = true := by kernel_rfl
theorem lps : (loopsIn (codeOf Try.f104)).map (fun d => findLoop (firstRegion d) (codeOf Try.f104)) = (loopsIn (codeOf Try.f104)).map some := by kernel_rfl
theorem hf : Try.prog.funcs[104]? = some Try.f104 := by kernel_rfl
theorem hb : Try.f104.body = some (codeOf Try.f104) := by kernel_rfl
theorem hn : (Try.f104.name == "runtime.NumGoroutine") = false := by kernel_rfl
theorem hJ (k : Nat) : ∀ C : Ctx, C.P = Try.prog → ∀ r, InlOk C (J k) r := fun C hC r => noInl_ok
theorem sound (k : Nat) : Sound Try.prog 104 (entry k) := func_sound (E := env k) (by kernel_rfl) (by kernel_rfl) (by kernel_rfl) (by kernel_rfl) tbl_nil hf hb hn (fit k) (loops_all lps) (hJ k) (loops k) (eq k)
end spec_l12Uncalled

namespace spec_l12Refund
def entry (k : Nat) : Entry := ⟨[.ro (.sl 2 (.int .i64))], [.own (.sl 2 (.int .i64))], fun (a0, _) => f k a0⟩
def tbl (k : Nat) : List (Nat × Option Entry) := [(86, some (spec_l01Own.entry k)), (104, some (spec_l12Uncalled.entry k))]
abbrev R := Res [.own (.sl 2 (.int .i64))] × Outs [.ro (.sl 2 (.int .i64))]
def env (k : Nat) : Env := ⟨Try.prog, 23, AM.look none (tbl k), AM.look none []⟩
def L (k : Nat) (q : Nat) (s : St) (K : AExit → St → Option R) : Option R := none
def J (k : Nat) : Inl R := noInl
theorem eq (k : Nat) : ∀ a, aexec (env k) (J k) (L k) (codeOf Try.f103) (begSt [.ro (.sl 2 (.int .i64))] a) (finK (env k) Try.f103 [.ro (.sl 2 (.int .i64))] [.own (.sl 2 (.int .i64))]) = (entry k).fn a := by intro a; kernel_rfl
theorem loops (k : Nat) : LoopsOk (env k) (J k) (L k) (codeOf Try.f103) := by
  intro c an hc han s K r h
  unfold L at h
  cases h
theorem fit (k : Nat) : codeFit (env k) (codeOf Try.f103) = true := by kernel_rfl
theorem lps : (loopsIn (codeOf Try.f103)).map (fun d => findLoop (firstRegion d) (codeOf Try.f103)) = (loopsIn (codeOf Try.f103)).map some := by kernel_rfl
theorem hf : Try.prog.funcs[103]? = some Try.f103 := by kernel_rfl
theorem hb : Try.f103.body = some (codeOf Try.f103) := by kernel_rfl
theorem hn : (Try.f103.name == "runtime.NumGoroutine") = false := by kernel_rfl
theorem hJ (k : Nat) : ∀ C : Ctx, C.P = Try.prog → ∀ r, InlOk C (J k) r := fun C hC r => noInl_ok
theorem sound (k : Nat) : Sound Try.prog 103 (entry k) := func_sound (E := env k) (by kernel_rfl) (by kernel_rfl) (by kernel_rfl) (by kernel_rfl) (tbl_cons (spec_l01Own.sound k) (tbl_cons (spec_l12Uncalled.sound k) tbl_nil)) hf hb hn (fit k) (loops_all lps) (hJ k) (loops k) (eq k)
end spec_l12Refund

namespace spec_l13Settle
def entry (k : Nat) : Entry := ⟨[.ro (.sl 2 (.int .i64)), .ro (.sl 4 .bool), .ro (.sl 2 (.int .i64)), .ro (.sl 2 (.int .i64)), .ro (.int .i64)], [.own (.sl 2 (.int .i64))], fun (a0, (a1, (a2, (a3, (a4, _))))) => f k a0 a1 a2 a3 a4⟩
def tbl (k : Nat) : List (Nat × Option Entry) := [(75, some (spec_l13All.entry k)), (102, some (spec_l12Pots.entry k)), (103, some (spec_l12Refund.entry k)), (104, some (spec_l12Uncalled.entry k))]
abbrev R := Res [.own (.sl 2 (.int .i64))] × Outs [.ro (.sl 2 (.int .i64)), .ro (.sl 4 .bool), .ro (.sl 2 (.int .i64)), .ro (.sl 2 (.int .i64)), .ro (.int .i64)]
def env (k : Nat) : Env := ⟨Try.prog, 37, AM.look none (tbl k), AM.look none []⟩
def L (k : Nat) (q : Nat) (s : St) (K : AExit → St → Option R) : Option R := none
def J (k : Nat) : Inl R := noInl
theorem eq (k : Nat) : ∀ a, aexec (env k) (J k) (L k) (codeOf Try.f80) (begSt [.ro (.sl 2 (.int .i64)), .ro (.sl 4 .bool), .ro (.sl 2 (.int .i64)), .ro (.sl 2 (.int .i64)), .ro (.int .i64)] a) (finK (env k) Try.f80 [.ro (.sl 2 (.int .i64)), .ro (.sl 4 .bool), .ro (.sl 2 (.int .i64)), .ro (.sl 2 (.int .i64)), .ro (.int .i64)] [.own (.sl 2 (.int .i64))]) = (entry k).fn a := by intro a; kernel_rfl
theorem loops (k : Nat) : LoopsOk (env k) (J k) (L k) (codeOf Try.f80) := by
  intro c an hc han s K r h
  unfold L at h
  cases h
theorem fit (k : Nat) : codeFit (env k) (codeOf Try.f80) = true := by kernel_rfl
theorem lps : (loopsIn (codeOf Try.f80)).map (fun d => findLoop (firstRegion d) (codeOf Try.f80)) = (loopsIn (codeOf Try.f80)).map some := by kernel_rfl
theorem hf : Try.prog.funcs[80]? = some Try.f80 := by kernel_rfl
theorem hb : Try.f80.body = some (codeOf Try.f80) := by kernel_rfl
theorem hn : (Try.f80.name == "runtime.NumGoroutine") = false := by kernel_rfl
theorem hJ (k : Nat) : ∀ C : Ctx, C.P = Try.prog → ∀ r, InlOk C (J k) r := fun C hC r => noInl_ok
theorem sound (k : Nat) : Sound Try.prog 80 (entry k) := func_sound (E := env k) (by kernel_rfl) (by kernel_rfl) (by kernel_rfl) (by kernel_rfl) (tbl_cons (spec_l13All.sound k) (tbl_cons (spec_l12Pots.sound k) (tbl_cons (spec_l12Refund.sound k) (tbl_cons (spec_l12Uncalled.sound k) tbl_nil)))) hf hb hn (fit k) (loops_all lps) (hJ k) (loops k) (eq k)
end spec_l13Settle

namespace spec_SettleHand
def entry (k : Nat) : Entry := ⟨[.ro (.sl 2 (.int .i64)), .ro (.sl 4 .bool), .ro (.sl 2 (.int .i64)), .ro (.sl 2 (.int .i64)), .ro (.int .i64)], [.own (.sl 2 (.int .i64)), .own (.int .i64)], fun (a0, (a1, (a2, (a3, (a4, _))))) => f k a0 a1 a2 a3 a4⟩
def tbl (k : Nat) : List (Nat × Option Entry) := [(57, some (spec_l01In.entry k)), (78, some (spec_ArePayments.entry k)), (79, some (spec_l13Values.entry k)), (80, some (spec_l13Settle.entry k))]
abbrev R := Res [.own (.sl 2 (.int .i64)), .own (.int .i64)] × Outs [.ro (.sl 2 (.int .i64)), .ro (.sl 4 .bool), .ro (.sl 2 (.int .i64)), .ro (.sl 2 (.int .i64)), .ro (.int .i64)]
def env (k : Nat) : Env := ⟨Try.prog, 42, AM.look none (tbl k), AM.look none []⟩
def L (k : Nat) (q : Nat) (s : St) (K : AExit → St → Option R) : Option R := none
def J (k : Nat) : Inl R := noInl
theorem eq (k : Nat) : ∀ a, aexec (env k) (J k) (L k) (codeOf Try.f43) (begSt [.ro (.sl 2 (.int .i64)), .ro (.sl 4 .bool), .ro (.sl 2 (.int .i64)), .ro (.sl 2 (.int .i64)), .ro (.int .i64)] a) (finK (env k) Try.f43 [.ro (.sl 2 (.int .i64)), .ro (.sl 4 .bool), .ro (.sl 2 (.int .i64)), .ro (.sl 2 (.int .i64)), .ro (.int .i64)] [.own (.sl 2 (.int .i64)), .own (.int .i64)]) = (entry k).fn a := by intro a; kernel_rfl
theorem loops (k : Nat) : LoopsOk (env k) (J k) (L k) (codeOf Try.f43) := by
  intro c an hc han s K r h
  unfold L at h
  cases h
theorem fit (k : Nat) : codeFit (env k) (codeOf Try.f43) = true := by kernel_rfl
theorem lps : (loopsIn (codeOf Try.f43)).map (fun d => findLoop (firstRegion d) (codeOf Try.f43)) = (loopsIn (codeOf Try.f43)).map some := by kernel_rfl
theorem hf : Try.prog.funcs[43]? = some Try.f43 := by kernel_rfl
theorem hb : Try.f43.body = some (codeOf Try.f43) := by kernel_rfl
theorem hn : (Try.f43.name == "runtime.NumGoroutine") = false := by kernel_rfl
theorem hJ (k : Nat) : ∀ C : Ctx, C.P = Try.prog → ∀ r, InlOk C (J k) r := fun C hC r => noInl_ok
theorem sound (k : Nat) : Sound Try.prog 43 (entry k) := func_sound (E := env k) (by kernel_rfl) (by kernel_rfl) (by kernel_rfl) (by kernel_rfl) (tbl_cons (spec_l01In.sound k) (tbl_cons (spec_ArePayments.sound k) (tbl_cons (spec_l13Values.sound k) (tbl_cons (spec_l13Settle.sound k) tbl_nil)))) hf hb hn (fit k) (loops_all lps) (hJ k) (loops k) (eq k)
end spec_SettleHand

namespace impl_within
def entry (k : Nat) : Entry := ⟨[.ro (.int .i64), .ro (.int .i64), .ro (.int .i64)], [.own .bool], fun (a0, (a1, (a2, _))) => f k a0 a1 a2⟩
def tbl (k : Nat) : List (Nat × Option Entry) := []
abbrev R := Res [.own .bool] × Outs [.ro (.int .i64), .ro (.int .i64), .ro (.int .i64)]
def env (k : Nat) : Env := ⟨Try.prog, 15, AM.look none (tbl k), AM.look none []⟩
def L (k : Nat) (q : Nat) (s : St) (K : AExit → St → Option R) : Option R := none
def J (k : Nat) : Inl R := noInl
theorem eq (k : Nat) : ∀ a, aexec (env k) (J k) (L k) (codeOf Try.f59) (begSt [.ro (.int .i64), .ro (.int .i64), .ro (.int .i64)] a) (finK (env k) Try.f59 [.ro (.int .i64), .ro (.int .i64), .ro (.int .i64)] [.own .bool]) = (entry k).fn a := by intro a; kernel_rfl
theorem loops (k : Nat) : LoopsOk (env k) (J k) (L k) (codeOf Try.f59) := by
  intro c an hc han s K r h
  unfold L at h
  cases h
theorem fit (k : Nat) : codeFit (env k) (codeOf Try.f59) = true := by kernel_rfl
theorem lps : (loopsIn (codeOf Try.f59)).map (fun d => findLoop (firstRegion d) (codeOf Try.f59)) = (loopsIn (codeOf Try.f59)).map some := by kernel_rfl
theorem hf : Try.prog.funcs[59]? = some Try.f59 := by kernel_rfl
theorem hb : Try.f59.body = some (codeOf Try.f59) := by kernel_rfl
theorem hn : (Try.f59.name == "runtime.NumGoroutine") = false := by kernel_rfl
theorem hJ (k : Nat) : ∀ C : Ctx, C.P = Try.prog → ∀ r, InlOk C (J k) r := fun C hC r => noInl_ok
theorem sound (k : Nat) : Sound Try.prog 59 (entry k) := func_sound (E := env k) (by kernel_rfl) (by kernel_rfl) (by kernel_rfl) (by kernel_rfl) tbl_nil hf hb hn (fit k) (loops_all lps) (hJ k) (loops k) (eq k)
end impl_within

namespace impl_areValues_1
def entry (k : Nat) : Entry := ⟨[.ro (.int .i64)], [.own .bool], fun (a0, _) => f k a0⟩
def tbl (k : Nat) : List (Nat × Option Entry) := []
abbrev R := Res [.own .bool] × Outs [.ro (.int .i64)]
def env (k : Nat) : Env := ⟨Try.prog, 5, AM.look none (tbl k), AM.look none []⟩
def L (k : Nat) (q : Nat) (s : St) (K : AExit → St → Option R) : Option R := none
def J (k : Nat) : Inl R := noInl
theorem eq (k : Nat) : ∀ a, aexec (env k) (J k) (L k) (codeOf Try.f100) (begSt [.ro (.int .i64)] a) (finK (env k) Try.f100 [.ro (.int .i64)] [.own .bool]) = (entry k).fn a := by intro a; kernel_rfl
theorem loops (k : Nat) : LoopsOk (env k) (J k) (L k) (codeOf Try.f100) := by
  intro c an hc han s K r h
  unfold L at h
  cases h
theorem fit (k : Nat) : codeFit (env k) (codeOf Try.f100) = true := by kernel_rfl
theorem lps : (loopsIn (codeOf Try.f100)).map (fun d => findLoop (firstRegion d) (codeOf Try.f100)) = (loopsIn (codeOf Try.f100)).map some := by kernel_rfl
theorem hf : Try.prog.funcs[100]? = some Try.f100 := by kernel_rfl
theorem hb : Try.f100.body = some (codeOf Try.f100) := by kernel_rfl
theorem hn : (Try.f100.name == "runtime.NumGoroutine") = false := by kernel_rfl
theorem hJ (k : Nat) : ∀ C : Ctx, C.P = Try.prog → ∀ r, InlOk C (J k) r := fun C hC r => noInl_ok
theorem sound (k : Nat) : Sound Try.prog 100 (entry k) := func_sound (E := env k) (by kernel_rfl) (by kernel_rfl) (by kernel_rfl) (by kernel_rfl) tbl_nil hf hb hn (fit k) (loops_all lps) (hJ k) (loops k) (eq k)
end impl_areValues_1

namespace impl_areValues
def entry (k : Nat) : Entry := ⟨[.ro (.sl 2 (.int .i64))], [.own .bool], fun (a0, _) => f k a0⟩
def tbl (k : Nat) : List (Nat × Option Entry) := [(100, some (impl_areValues_1.entry k))]
abbrev R := Res [.own .bool] × Outs [.ro (.sl 2 (.int .i64))]
def env (k : Nat) : Env := ⟨Try.prog, 6, AM.look none (tbl k), AM.look none []⟩
def L (k : Nat) (q : Nat) (s : St) (K : AExit → St → Option R) : Option R := none
def i1001_env (k : Nat) : Env := ⟨Try.prog, 9, AM.look none (tbl k), AM.look none []⟩
def i1001_L (k : Nat) (q : Nat) (s : St) (K : AExit → St → Option R) : Option R := none
def i1001_i1002_env (k : Nat) : Env := ⟨Try.prog, 19, AM.look none (tbl k), AM.look none [(2, some ⟨[(0, .asis), (1, .asis), (7, .asis), (8, .asis)], [(4, .asis)]⟩)]⟩
def shi1001_i1002_2 : Shape := ⟨[(0, .val (.sl 2 (.int .i64))), (1, .fn 100 []), (7, .val (.int .i64)), (8, .val (.int .i64))], [], 0, []⟩
def oshi1001_i1002_2kx0 : Shape := ⟨[(4, .undef)], [], 0, []⟩
def oshi1001_i1002_2kr : Shape := ⟨[(4, .val (.int .i64))], [], 0, []⟩
def uni1001_i1002_2 : (List Int) × Int × Int → shi1001_i1002_2.V := fun (x0, x7, x8) => ((x0, ((), (x7, (x8, ())))), ())
def fli1001_i1002_2 : shi1001_i1002_2.V → (List Int) × Int × Int := fun ((x0, (_, (x7, (x8, _)))), _) => (x0, x7, x8)
def i1001_i1002_L (k : Nat) (q : Nat) (s : St) (K : AExit → St → Option R) : Option R := bif Nat.beq q 2 then (match shi1001_i1002_2.dec s with | some v => i1001_i1002_l2 (R := R) k k (fli1001_i1002_2 v) (fun (_ : Unit) => K (.exit 0) (oshi1001_i1002_2kx0.enc (((), ()), ()))) (fun x4 => K .ret (oshi1001_i1002_2kr.enc ((x4, ()), ()))) | none => none) else (none)
def i1001_i1002_J (k : Nat) : Inl R := noInl
def i1001_J (k : Nat) : Inl R := (inlCons 1002 111 (inst (i1001_i1002_env k) (i1001_i1002_J k) (i1001_i1002_L k) Try.f111 []) noInl)
def J (k : Nat) : Inl R := (inlCons 1001 99 (inst (i1001_env k) (i1001_J k) (i1001_L k) Try.f99 []) noInl)
theorem stepi1001_i1002_2 (k n : Nat) (K : AExit → St → Option R) : ∀ v, aloop (aexec (i1001_i1002_env k) (i1001_i1002_J k) (i1001_i1002_L k) ((findLoop 2 (codeOf Try.f111)).getD .skip)) (normSt [(0, .asis), (1, .asis), (7, .asis), (8, .asis)]) (normSt [(4, .asis)]) K (n + 1) (shi1001_i1002_2.enc (uni1001_i1002_2 v)) = i1001_i1002_s2 (R := R) k (fun w => aloop (aexec (i1001_i1002_env k) (i1001_i1002_J k) (i1001_i1002_L k) ((findLoop 2 (codeOf Try.f111)).getD .skip)) (normSt [(0, .asis), (1, .asis), (7, .asis), (8, .asis)]) (normSt [(4, .asis)]) K n (shi1001_i1002_2.enc (uni1001_i1002_2 w))) (fun (_ : Unit) => K (.exit 0) (oshi1001_i1002_2kx0.enc (((), ()), ()))) (fun x4 => K .ret (oshi1001_i1002_2kr.enc ((x4, ()), ()))) v := by intro v; kernel_rfl
theorem eq (k : Nat) : ∀ a, aexec (env k) (J k) (L k) (codeOf Try.f76) (begSt [.ro (.sl 2 (.int .i64))] a) (finK (env k) Try.f76 [.ro (.sl 2 (.int .i64))] [.own .bool]) = (entry k).fn a := by intro a; kernel_rfl
theorem loops (k : Nat) : LoopsOk (env k) (J k) (L k) (codeOf Try.f76) := by
  intro c an hc han s K r h
  unfold L at h
  cases h
theorem i1001_loops (k : Nat) : LoopsOk (i1001_env k) (i1001_J k) (i1001_L k) (codeOf Try.f99) := by
  intro c an hc han s K r h
  unfold i1001_L at h
  cases h
theorem runi1001_i1002_2 (k : Nat) (K : AExit → St → Option R) : ∀ n v, aloop (aexec (i1001_i1002_env k) (i1001_i1002_J k) (i1001_i1002_L k) ((findLoop 2 (codeOf Try.f111)).getD .skip)) (normSt [(0, .asis), (1, .asis), (7, .asis), (8, .asis)]) (normSt [(4, .asis)]) K n (shi1001_i1002_2.enc (uni1001_i1002_2 v)) = i1001_i1002_l2 (R := R) k n v (fun (_ : Unit) => K (.exit 0) (oshi1001_i1002_2kx0.enc (((), ()), ()))) (fun x4 => K .ret (oshi1001_i1002_2kr.enc ((x4, ()), ()))) := loop_eq (fun n v => aloop (aexec (i1001_i1002_env k) (i1001_i1002_J k) (i1001_i1002_L k) ((findLoop 2 (codeOf Try.f111)).getD .skip)) (normSt [(0, .asis), (1, .asis), (7, .asis), (8, .asis)]) (normSt [(4, .asis)]) K n (shi1001_i1002_2.enc (uni1001_i1002_2 v))) (fun n v => i1001_i1002_l2 (R := R) k n v (fun (_ : Unit) => K (.exit 0) (oshi1001_i1002_2kx0.enc (((), ()), ()))) (fun x4 => K .ret (oshi1001_i1002_2kr.enc ((x4, ()), ())))) (fun X v => i1001_i1002_s2 (R := R) k X (fun (_ : Unit) => K (.exit 0) (oshi1001_i1002_2kx0.enc (((), ()), ()))) (fun x4 => K .ret (oshi1001_i1002_2kr.enc ((x4, ()), ()))) v) (fun _ => rfl) (fun n v => stepi1001_i1002_2 k n K v) (fun n v => rfl)
theorem i1001_i1002_loops (k : Nat) : LoopsOk (i1001_i1002_env k) (i1001_i1002_J k) (i1001_i1002_L k) (codeOf Try.f111) := by
  intro c an hc han s K r h
  unfold i1001_i1002_L at h
  by_cases q2 : firstRegion c = 2
  · have h1 := key_eq q2 h
    rw [q2] at hc han
    have e2 : an = ⟨[(0, .asis), (1, .asis), (7, .asis), (8, .asis)], [(4, .asis)]⟩ := (Option.some.inj (show some _ = some an from han)).symm
    have e1 : c = (findLoop 2 (codeOf Try.f111)).getD .skip := by rw [hc]; rfl
    cases hd : shi1001_i1002_2.dec s with
    | none => rw [hd] at h1; cases h1
    | some v =>
      rw [hd] at h1
      refine ⟨k, ?_⟩
      rw [e1, e2, Shape.dec_enc _ _ _ hd]
      exact (runi1001_i1002_2 k K k (fli1001_i1002_2 v)).trans h1
  have h := not_key q2 h
  cases h
theorem i1001_i1002_fit (k : Nat) : codeFit (i1001_i1002_env k) (codeOf Try.f111) = true := by kernel_rfl
theorem i1001_i1002_lps : (loopsIn (codeOf Try.f111)).map (fun d => findLoop (firstRegion d) (codeOf Try.f111)) = (loopsIn (codeOf Try.f111)).map some := by kernel_rfl
theorem i1001_i1002_hf : Try.prog.funcs[111]? = some Try.f111 := by kernel_rfl
theorem i1001_i1002_hb : Try.f111.body = some (codeOf Try.f111) := by kernel_rfl
theorem i1001_i1002_hn : (Try.f111.name == "runtime.NumGoroutine") = false := by kernel_rfl
theorem i1001_i1002_hJ (k : Nat) : ∀ C : Ctx, C.P = Try.prog → ∀ r, InlOk C (i1001_i1002_J k) r := fun C hC r => noInl_ok
theorem i1001_i1002_one (k : Nat) (C : Ctx) (hC : C.P = Try.prog) (r : R) : OneOk C 111 (inst (i1001_i1002_env k) (i1001_i1002_J k) (i1001_i1002_L k) Try.f111 []) r := inst_ok hC (by kernel_rfl) (by kernel_rfl) (by kernel_rfl) (by kernel_rfl) (tbl_cons (impl_areValues_1.sound k) tbl_nil) i1001_i1002_hf i1001_i1002_hb i1001_i1002_hn (i1001_i1002_fit k) (loops_all i1001_i1002_lps) (fun C hC => i1001_i1002_hJ k C hC r) (i1001_i1002_loops k)
theorem i1001_fit (k : Nat) : codeFit (i1001_env k) (codeOf Try.f99) = true := by kernel_rfl
theorem i1001_lps : (loopsIn (codeOf Try.f99)).map (fun d => findLoop (firstRegion d) (codeOf Try.f99)) = (loopsIn (codeOf Try.f99)).map some := by kernel_rfl
theorem i1001_hf : Try.prog.funcs[99]? = some Try.f99 := by kernel_rfl
theorem i1001_hb : Try.f99.body = some (codeOf Try.f99) := by kernel_rfl
theorem i1001_hn : (Try.f99.name == "runtime.NumGoroutine") = false := by kernel_rfl
theorem i1001_hJ (k : Nat) : ∀ C : Ctx, C.P = Try.prog → ∀ r, InlOk C (i1001_J k) r := fun C hC r => (inlCons_ok (i1001_i1002_one k C hC r) noInl_ok)
theorem i1001_one (k : Nat) (C : Ctx) (hC : C.P = Try.prog) (r : R) : OneOk C 99 (inst (i1001_env k) (i1001_J k) (i1001_L k) Try.f99 []) r := inst_ok hC (by kernel_rfl) (by kernel_rfl) (by kernel_rfl) (by kernel_rfl) (tbl_cons (impl_areValues_1.sound k) tbl_nil) i1001_hf i1001_hb i1001_hn (i1001_fit k) (loops_all i1001_lps) (fun C hC => i1001_hJ k C hC r) (i1001_loops k)
theorem fit (k : Nat) : codeFit (env k) (codeOf Try.f76) = true := by kernel_rfl
theorem lps : (loopsIn (codeOf Try.f76)).map (fun d => findLoop (firstRegion d) (codeOf Try.f76)) = (loopsIn (codeOf Try.f76)).map some := by kernel_rfl
theorem hf : Try.prog.funcs[76]? = some Try.f76 := by kernel_rfl
theorem hb : Try.f76.body = some (codeOf Try.f76) := by kernel_rfl
theorem hn : (Try.f76.name == "runtime.NumGoroutine") = false := by kernel_rfl
theorem hJ (k : Nat) : ∀ C : Ctx, C.P = Try.prog → ∀ r, InlOk C (J k) r := fun C hC r => (inlCons_ok (i1001_one k C hC r) noInl_ok)
theorem sound (k : Nat) : Sound Try.prog 76 (entry k) := func_sound (E := env k) (by kernel_rfl) (by kernel_rfl) (by kernel_rfl) (by kernel_rfl) (tbl_cons (impl_areValues_1.sound k) tbl_nil) hf hb hn (fit k) (loops_all lps) (hJ k) (loops k) (eq k)
end impl_areValues

namespace impl_highWinners
def entry (k : Nat) : Entry := ⟨[.ro (.sl 2 (.int .i64)), .ro (.sl 2 (.int .i64))], [.own (.sl 2 (.int .i64))], fun (a0, (a1, _)) => f k a0 a1⟩
def tbl (k : Nat) : List (Nat × Option Entry) := []
abbrev R := Res [.own (.sl 2 (.int .i64))] × Outs [.ro (.sl 2 (.int .i64)), .ro (.sl 2 (.int .i64))]
def env (k : Nat) : Env := ⟨Try.prog, 37, AM.look none (tbl k), AM.look none [(4, some ⟨[(1, .asis), (5, .row 2 (.int .i64)), (6, .asis), (9, .asis), (10, .asis), (11, .asis)], [(5, .asis)]⟩)]⟩
def sh4 : Shape := ⟨[(1, .val (.sl 2 (.int .i64))), (5, .ref 0), (6, .val (.int .i64)), (9, .val (.sl 2 (.int .i64))), (10, .val (.int .i64)), (11, .val (.int .i64))], [(0, .row 2 (.int .i64))], 1, []⟩
def osh4kx0 : Shape := ⟨[(5, .ref 0)], [(0, .row 2 (.int .i64))], 1, []⟩
def un4 : (List Int) × Int × (List Int) × Int × Int × (List Int) → sh4.V := fun (x1, x6, x9, x10, x11, y0) => ((x1, ((), (x6, (x9, (x10, (x11, ())))))), (y0, ()))
def fl4 : sh4.V → (List Int) × Int × (List Int) × Int × Int × (List Int) := fun ((x1, (_, (x6, (x9, (x10, (x11, _)))))), (y0, _)) => (x1, x6, x9, x10, x11, y0)
def L (k : Nat) (q : Nat) (s : St) (K : AExit → St → Option R) : Option R := bif Nat.beq q 4 then (match sh4.dec s with | some v => l4 (R := R) k k (fl4 v) (fun y0 => K (.exit 0) (osh4kx0.enc (((), ()), (y0, ())))) | none => none) else (none)
def J (k : Nat) : Inl R := noInl
theorem step4 (k n : Nat) (K : AExit → St → Option R) : ∀ v, aloop (aexec (env k) (J k) (L k) ((findLoop 4 (codeOf Try.f64)).getD .skip)) (normSt [(1, .asis), (5, .row 2 (.int .i64)), (6, .asis), (9, .asis), (10, .asis), (11, .asis)]) (normSt [(5, .asis)]) K (n + 1) (sh4.enc (un4 v)) = s4 (R := R) k (fun w => aloop (aexec (env k) (J k) (L k) ((findLoop 4 (codeOf Try.f64)).getD .skip)) (normSt [(1, .asis), (5, .row 2 (.int .i64)), (6, .asis), (9, .asis), (10, .asis), (11, .asis)]) (normSt [(5, .asis)]) K n (sh4.enc (un4 w))) (fun y0 => K (.exit 0) (osh4kx0.enc (((), ()), (y0, ())))) v := by intro v; kernel_rfl
theorem eq (k : Nat) : ∀ a, aexec (env k) (J k) (L k) (codeOf Try.f64) (begSt [.ro (.sl 2 (.int .i64)), .ro (.sl 2 (.int .i64))] a) (finK (env k) Try.f64 [.ro (.sl 2 (.int .i64)), .ro (.sl 2 (.int .i64))] [.own (.sl 2 (.int .i64))]) = (entry k).fn a := by intro a; kernel_rfl
theorem run4 (k : Nat) (K : AExit → St → Option R) : ∀ n v, aloop (aexec (env k) (J k) (L k) ((findLoop 4 (codeOf Try.f64)).getD .skip)) (normSt [(1, .asis), (5, .row 2 (.int .i64)), (6, .asis), (9, .asis), (10, .asis), (11, .asis)]) (normSt [(5, .asis)]) K n (sh4.enc (un4 v)) = l4 (R := R) k n v (fun y0 => K (.exit 0) (osh4kx0.enc (((), ()), (y0, ())))) := loop_eq (fun n v => aloop (aexec (env k) (J k) (L k) ((findLoop 4 (codeOf Try.f64)).getD .skip)) (normSt [(1, .asis), (5, .row 2 (.int .i64)), (6, .asis), (9, .asis), (10, .asis), (11, .asis)]) (normSt [(5, .asis)]) K n (sh4.enc (un4 v))) (fun n v => l4 (R := R) k n v (fun y0 => K (.exit 0) (osh4kx0.enc (((), ()), (y0, ()))))) (fun X v => s4 (R := R) k X (fun y0 => K (.exit 0) (osh4kx0.enc (((), ()), (y0, ())))) v) (fun _ => rfl) (fun n v => step4 k n K v) (fun n v => rfl)
theorem loops (k : Nat) : LoopsOk (env k) (J k) (L k) (codeOf Try.f64) := by
  intro c an hc han s K r h
  unfold L at h
  by_cases q4 : firstRegion c = 4
  · have h1 := key_eq q4 h
    rw [q4] at hc han
    have e2 : an = ⟨[(1, .asis), (5, .row 2 (.int .i64)), (6, .asis), (9, .asis), (10, .asis), (11, .asis)], [(5, .asis)]⟩ := (Option.some.inj (show some _ = some an from han)).symm
    have e1 : c = (findLoop 4 (codeOf Try.f64)).getD .skip := by rw [hc]; rfl
    cases hd : sh4.dec s with
    | none => rw [hd] at h1; cases h1
    | some v =>
      rw [hd] at h1
      refine ⟨k, ?_⟩
      rw [e1, e2, Shape.dec_enc _ _ _ hd]
      exact (run4 k K k (fl4 v)).trans h1
  have h := not_key q4 h
  cases h
theorem fit (k : Nat) : codeFit (env k) (codeOf Try.f64) = true := by kernel_rfl
theorem lps : (loopsIn (codeOf Try.f64)).map (fun d => findLoop (firstRegion d) (codeOf Try.f64)) = (loopsIn (codeOf Try.f64)).map some := by kernel_rfl
theorem hf : Try.prog.funcs[64]? = some Try.f64 := by kernel_rfl
theorem hb : Try.f64.body = some (codeOf Try.f64) := by kernel_rfl
theorem hn : (Try.f64.name == "runtime.NumGoroutine") = false := by kernel_rfl
theorem hJ (k : Nat) : ∀ C : Ctx, C.P = Try.prog → ∀ r, InlOk C (J k) r := fun C hC r => noInl_ok
theorem sound (k : Nat) : Sound Try.prog 64 (entry k) := func_sound (E := env k) (by kernel_rfl) (by kernel_rfl) (by kernel_rfl) (by kernel_rfl) tbl_nil hf hb hn (fit k) (loops_all lps) (hJ k) (loops k) (eq k)
end impl_highWinners

namespace impl_lowWinners
def entry (k : Nat) : Entry := ⟨[.ro (.sl 2 (.int .i64)), .ro (.sl 2 (.int .i64))], [.own (.sl 2 (.int .i64))], fun (a0, (a1, _)) => f k a0 a1⟩
def tbl (k : Nat) : List (Nat × Option Entry) := []
abbrev R := Res [.own (.sl 2 (.int .i64))] × Outs [.ro (.sl 2 (.int .i64)), .ro (.sl 2 (.int .i64))]
def env (k : Nat) : Env := ⟨Try.prog, 46, AM.look none (tbl k), AM.look none [(4, some ⟨[(1, .asis), (5, .row 2 (.int .i64)), (6, .asis), (9, .asis), (10, .asis), (11, .asis)], [(5, .asis)]⟩)]⟩
def sh4 : Shape := ⟨[(1, .val (.sl 2 (.int .i64))), (5, .ref 0), (6, .val (.int .i64)), (9, .val (.sl 2 (.int .i64))), (10, .val (.int .i64)), (11, .val (.int .i64))], [(0, .row 2 (.int .i64))], 1, []⟩
def osh4kx0 : Shape := ⟨[(5, .ref 0)], [(0, .row 2 (.int .i64))], 1, []⟩
def un4 : (List Int) × Int × (List Int) × Int × Int × (List Int) → sh4.V := fun (x1, x6, x9, x10, x11, y0) => ((x1, ((), (x6, (x9, (x10, (x11, ())))))), (y0, ()))
def fl4 : sh4.V → (List Int) × Int × (List Int) × Int × Int × (List Int) := fun ((x1, (_, (x6, (x9, (x10, (x11, _)))))), (y0, _)) => (x1, x6, x9, x10, x11, y0)
def L (k : Nat) (q : Nat) (s : St) (K : AExit → St → Option R) : Option R := bif Nat.beq q 4 then (match sh4.dec s with | some v => l4 (R := R) k k (fl4 v) (fun y0 => K (.exit 0) (osh4kx0.enc (((), ()), (y0, ())))) | none => none) else (none)
def J (k : Nat) : Inl R := noInl
theorem step4 (k n : Nat) (K : AExit → St → Option R) : ∀ v, aloop (aexec (env k) (J k) (L k) ((findLoop 4 (codeOf Try.f65)).getD .skip)) (normSt [(1, .asis), (5, .row 2 (.int .i64)), (6, .asis), (9, .asis), (10, .asis), (11, .asis)]) (normSt [(5, .asis)]) K (n + 1) (sh4.enc (un4 v)) = s4 (R := R) k (fun w => aloop (aexec (env k) (J k) (L k) ((findLoop 4 (codeOf Try.f65)).getD .skip)) (normSt [(1, .asis), (5, .row 2 (.int .i64)), (6, .asis), (9, .asis), (10, .asis), (11, .asis)]) (normSt [(5, .asis)]) K n (sh4.enc (un4 w))) (fun y0 => K (.exit 0) (osh4kx0.enc (((), ()), (y0, ())))) v := by intro v; kernel_rfl
theorem eq (k : Nat) : ∀ a, aexec (env k) (J k) (L k) (codeOf Try.f65) (begSt [.ro (.sl 2 (.int .i64)), .ro (.sl 2 (.int .i64))] a) (finK (env k) Try.f65 [.ro (.sl 2 (.int .i64)), .ro (.sl 2 (.int .i64))] [.own (.sl 2 (.int .i64))]) = (entry k).fn a := by intro a; kernel_rfl
theorem run4 (k : Nat) (K : AExit → St → Option R) : ∀ n v, aloop (aexec (env k) (J k) (L k) ((findLoop 4 (codeOf Try.f65)).getD .skip)) (normSt [(1, .asis), (5, .row 2 (.int .i64)), (6, .asis), (9, .asis), (10, .asis), (11, .asis)]) (normSt [(5, .asis)]) K n (sh4.enc (un4 v)) = l4 (R := R) k n v (fun y0 => K (.exit 0) (osh4kx0.enc (((), ()), (y0, ())))) := loop_eq (fun n v => aloop (aexec (env k) (J k) (L k) ((findLoop 4 (codeOf Try.f65)).getD .skip)) (normSt [(1, .asis), (5, .row 2 (.int .i64)), (6, .asis), (9, .asis), (10, .asis), (11, .asis)]) (normSt [(5, .asis)]) K n (sh4.enc (un4 v))) (fun n v => l4 (R := R) k n v (fun y0 => K (.exit 0) (osh4kx0.enc (((), ()), (y0, ()))))) (fun X v => s4 (R := R) k X (fun y0 => K (.exit 0) (osh4kx0.enc (((), ()), (y0, ())))) v) (fun _ => rfl) (fun n v => step4 k n K v) (fun n v => rfl)
theorem loops (k : Nat) : LoopsOk (env k) (J k) (L k) (codeOf Try.f65) := by
  intro c an hc han s K r h
  unfold L at h
  by_cases q4 : firstRegion c = 4
  · have h1 := key_eq q4 h
    rw [q4] at hc han
    have e2 : an = ⟨[(1, .asis), (5, .row 2 (.int .i64)), (6, .asis), (9, .asis), (10, .asis), (11, .asis)], [(5, .asis)]⟩ := (Option.some.inj (show some _ = some an from han)).symm
    have e1 : c = (findLoop 4 (codeOf Try.f65)).getD .skip := by rw [hc]; rfl
    cases hd : sh4.dec s with
    | none => rw [hd] at h1; cases h1
    | some v =>
      rw [hd] at h1
      refine ⟨k, ?_⟩
      rw [e1, e2, Shape.dec_enc _ _ _ hd]
      exact (run4 k K k (fl4 v)).trans h1
  have h := not_key q4 h
  cases h
theorem fit (k : Nat) : codeFit (env k) (codeOf Try.f65) = true := by kernel_rfl
theorem lps : (loopsIn (codeOf Try.f65)).map (fun d => findLoop (firstRegion d) (codeOf Try.f65)) = (loopsIn (codeOf Try.f65)).map some := by kernel_rfl
theorem hf : Try.prog.funcs[65]? = some Try.f65 := by kernel_rfl
theorem hb : Try.f65.body = some (codeOf Try.f65) := by kernel_rfl
theorem hn : (Try.f65.name == "runtime.NumGoroutine") = false := by kernel_rfl
theorem hJ (k : Nat) : ∀ C : Ctx, C.P = Try.prog → ∀ r, InlOk C (J k) r := fun C hC r => noInl_ok
theorem sound (k : Nat) : Sound Try.prog 65 (entry k) := func_sound (E := env k) (by kernel_rfl) (by kernel_rfl) (by kernel_rfl) (by kernel_rfl) tbl_nil hf hb hn (fit k) (loops_all lps) (hJ k) (loops k) (eq k)
end impl_lowWinners

namespace slices_Index_int64_int64
def entry (k : Nat) : Entry := ⟨[.ro (.sl 2 (.int .i64)), .ro (.int .i64)], [.own (.int .i64)], fun (a0, (a1, _)) => f k a0 a1⟩
def tbl (k : Nat) : List (Nat × Option Entry) := []
abbrev R := Res [.own (.int .i64)] × Outs [.ro (.sl 2 (.int .i64)), .ro (.int .i64)]
def env (k : Nat) : Env := ⟨Try.prog, 19, AM.look none (tbl k), AM.look none [(2, some ⟨[(0, .asis), (1, .asis), (7, .asis), (8, .asis)], [(4, .asis)]⟩)]⟩
def sh2 : Shape := ⟨[(0, .val (.sl 2 (.int .i64))), (1, .val (.int .i64)), (7, .val (.int .i64)), (8, .val (.int .i64))], [], 0, []⟩
def osh2kx0 : Shape := ⟨[(4, .undef)], [], 0, []⟩
def osh2kr : Shape := ⟨[(4, .val (.int .i64))], [], 0, []⟩
def un2 : (List Int) × Int × Int × Int → sh2.V := fun (x0, x1, x7, x8) => ((x0, (x1, (x7, (x8, ())))), ())
def fl2 : sh2.V → (List Int) × Int × Int × Int := fun ((x0, (x1, (x7, (x8, _)))), _) => (x0, x1, x7, x8)
def L (k : Nat) (q : Nat) (s : St) (K : AExit → St → Option R) : Option R := bif Nat.beq q 2 then (match sh2.dec s with | some v => l2 (R := R) k k (fl2 v) (fun (_ : Unit) => K (.exit 0) (osh2kx0.enc (((), ()), ()))) (fun x4 => K .ret (osh2kr.enc ((x4, ()), ()))) | none => none) else (none)
def J (k : Nat) : Inl R := noInl
theorem step2 (k n : Nat) (K : AExit → St → Option R) : ∀ v, aloop (aexec (env k) (J k) (L k) ((findLoop 2 (codeOf Try.f110)).getD .skip)) (normSt [(0, .asis), (1, .asis), (7, .asis), (8, .asis)]) (normSt [(4, .asis)]) K (n + 1) (sh2.enc (un2 v)) = s2 (R := R) k (fun w => aloop (aexec (env k) (J k) (L k) ((findLoop 2 (codeOf Try.f110)).getD .skip)) (normSt [(0, .asis), (1, .asis), (7, .asis), (8, .asis)]) (normSt [(4, .asis)]) K n (sh2.enc (un2 w))) (fun (_ : Unit) => K (.exit 0) (osh2kx0.enc (((), ()), ()))) (fun x4 => K .ret (osh2kr.enc ((x4, ()), ()))) v := by intro v; kernel_rfl
theorem eq (k : Nat) : ∀ a, aexec (env k) (J k) (L k) (codeOf Try.f110) (begSt [.ro (.sl 2 (.int .i64)), .ro (.int .i64)] a) (finK (env k) Try.f110 [.ro (.sl 2 (.int .i64)), .ro (.int .i64)] [.own (.int .i64)]) = (entry k).fn a := by intro a; kernel_rfl
theorem run2 (k : Nat) (K : AExit → St → Option R) : ∀ n v, aloop (aexec (env k) (J k) (L k) ((findLoop 2 (codeOf Try.f110)).getD .skip)) (normSt [(0, .asis), (1, .asis), (7, .asis), (8, .asis)]) (normSt [(4, .asis)]) K n (sh2.enc (un2 v)) = l2 (R := R) k n v (fun (_ : Unit) => K (.exit 0) (osh2kx0.enc (((), ()), ()))) (fun x4 => K .ret (osh2kr.enc ((x4, ()), ()))) := loop_eq (fun n v => aloop (aexec (env k) (J k) (L k) ((findLoop 2 (codeOf Try.f110)).getD .skip)) (normSt [(0, .asis), (1, .asis), (7, .asis), (8, .asis)]) (normSt [(4, .asis)]) K n (sh2.enc (un2 v))) (fun n v => l2 (R := R) k n v (fun (_ : Unit) => K (.exit 0) (osh2kx0.enc (((), ()), ()))) (fun x4 => K .ret (osh2kr.enc ((x4, ()), ())))) (fun X v => s2 (R := R) k X (fun (_ : Unit) => K (.exit 0) (osh2kx0.enc (((), ()), ()))) (fun x4 => K .ret (osh2kr.enc ((x4, ()), ()))) v) (fun _ => rfl) (fun n v => step2 k n K v) (fun n v => rfl)
theorem loops (k : Nat) : LoopsOk (env k) (J k) (L k) (codeOf Try.f110) := by
  intro c an hc han s K r h
  unfold L at h
  by_cases q2 : firstRegion c = 2
  · have h1 := key_eq q2 h
    rw [q2] at hc han
    have e2 : an = ⟨[(0, .asis), (1, .asis), (7, .asis), (8, .asis)], [(4, .asis)]⟩ := (Option.some.inj (show some _ = some an from han)).symm
    have e1 : c = (findLoop 2 (codeOf Try.f110)).getD .skip := by rw [hc]; rfl
    cases hd : sh2.dec s with
    | none => rw [hd] at h1; cases h1
    | some v =>
      rw [hd] at h1
      refine ⟨k, ?_⟩
      rw [e1, e2, Shape.dec_enc _ _ _ hd]
      exact (run2 k K k (fl2 v)).trans h1
  have h := not_key q2 h
  cases h
theorem fit (k : Nat) : codeFit (env k) (codeOf Try.f110) = true := by kernel_rfl
theorem lps : (loopsIn (codeOf Try.f110)).map (fun d => findLoop (firstRegion d) (codeOf Try.f110)) = (loopsIn (codeOf Try.f110)).map some := by kernel_rfl
theorem hf : Try.prog.funcs[110]? = some Try.f110 := by kernel_rfl
theorem hb : Try.f110.body = some (codeOf Try.f110) := by kernel_rfl
theorem hn : (Try.f110.name == "runtime.NumGoroutine") = false := by kernel_rfl
theorem hJ (k : Nat) : ∀ C : Ctx, C.P = Try.prog → ∀ r, InlOk C (J k) r := fun C hC r => noInl_ok
theorem sound (k : Nat) : Sound Try.prog 110 (entry k) := func_sound (E := env k) (by kernel_rfl) (by kernel_rfl) (by kernel_rfl) (by kernel_rfl) tbl_nil hf hb hn (fit k) (loops_all lps) (hJ k) (loops k) (eq k)
end slices_Index_int64_int64

namespace slices_Contains_int64_int64
def entry (k : Nat) : Entry := ⟨[.ro (.sl 2 (.int .i64)), .ro (.int .i64)], [.own .bool], fun (a0, (a1, _)) => f k a0 a1⟩
def tbl (k : Nat) : List (Nat × Option Entry) := [(110, some (slices_Index_int64_int64.entry k))]
abbrev R := Res [.own .bool] × Outs [.ro (.sl 2 (.int .i64)), .ro (.int .i64)]
def env (k : Nat) : Env := ⟨Try.prog, 9, AM.look none (tbl k), AM.look none []⟩
def L (k : Nat) (q : Nat) (s : St) (K : AExit → St → Option R) : Option R := none
def J (k : Nat) : Inl R := noInl
theorem eq (k : Nat) : ∀ a, aexec (env k) (J k) (L k) (codeOf Try.f92) (begSt [.ro (.sl 2 (.int .i64)), .ro (.int .i64)] a) (finK (env k) Try.f92 [.ro (.sl 2 (.int .i64)), .ro (.int .i64)] [.own .bool]) = (entry k).fn a := by intro a; kernel_rfl
theorem loops (k : Nat) : LoopsOk (env k) (J k) (L k) (codeOf Try.f92) := by
  intro c an hc han s K r h
  unfold L at h
  cases h
theorem fit (k : Nat) : codeFit (env k) (codeOf Try.f92) = true := by kernel_rfl
theorem lps : (loopsIn (codeOf Try.f92)).map (fun d => findLoop (firstRegion d) (codeOf Try.f92)) = (loopsIn (codeOf Try.f92)).map some := by kernel_rfl
theorem hf : Try.prog.funcs[92]? = some Try.f92 := by kernel_rfl
theorem hb : Try.f92.body = some (codeOf Try.f92) := by kernel_rfl
theorem hn : (Try.f92.name == "runtime.NumGoroutine") = false := by kernel_rfl
theorem hJ (k : Nat) : ∀ C : Ctx, C.P = Try.prog → ∀ r, InlOk C (J k) r := fun C hC r => noInl_ok
theorem sound (k : Nat) : Sound Try.prog 92 (entry k) := func_sound (E := env k) (by kernel_rfl) (by kernel_rfl) (by kernel_rfl) (by kernel_rfl) (tbl_cons (slices_Index_int64_int64.sound k) tbl_nil) hf hb hn (fit k) (loops_all lps) (hJ k) (loops k) (eq k)
end slices_Contains_int64_int64

namespace impl_splitChips
def entry (k : Nat) : Entry := ⟨[.ro (.int .i64), .ro (.sl 2 (.int .i64)), .ro (.int .i64), .ro (.int .i64)], [.own (.sl 2 (.int .i64))], fun (a0, (a1, (a2, (a3, _)))) => f k a0 a1 a2 a3⟩
def tbl (k : Nat) : List (Nat × Option Entry) := [(92, some (slices_Contains_int64_int64.entry k))]
abbrev R := Res [.own (.sl 2 (.int .i64))] × Outs [.ro (.int .i64), .ro (.sl 2 (.int .i64)), .ro (.int .i64), .ro (.int .i64)]
def env (k : Nat) : Env := ⟨Try.prog, 52, AM.look none (tbl k), AM.look none [(5, some ⟨[(0, .asis), (1, .asis), (2, .asis), (3, .asis), (9, .asis), (10, .asis), (11, .asis), (21, .asis), (22, .asis)], [(9, .asis)]⟩)]⟩
def sh5 : Shape := ⟨[(0, .val (.int .i64)), (1, .val (.sl 2 (.int .i64))), (2, .val (.int .i64)), (3, .val (.int .i64)), (9, .ref 0), (10, .val (.int .i64)), (11, .val (.int .i64)), (21, .val (.int .i64)), (22, .val (.int .i64))], [(0, .row 2 (.int .i64))], 1, []⟩
def osh5kx0 : Shape := ⟨[(9, .ref 0)], [(0, .row 2 (.int .i64))], 1, []⟩
def un5 : Int × (List Int) × Int × Int × Int × Int × Int × Int × (List Int) → sh5.V := fun (x0, x1, x2, x3, x10, x11, x21, x22, y0) => ((x0, (x1, (x2, (x3, ((), (x10, (x11, (x21, (x22, ()))))))))), (y0, ()))
def fl5 : sh5.V → Int × (List Int) × Int × Int × Int × Int × Int × Int × (List Int) := fun ((x0, (x1, (x2, (x3, (_, (x10, (x11, (x21, (x22, _))))))))), (y0, _)) => (x0, x1, x2, x3, x10, x11, x21, x22, y0)
def L (k : Nat) (q : Nat) (s : St) (K : AExit → St → Option R) : Option R := bif Nat.beq q 5 then (match sh5.dec s with | some v => l5 (R := R) k k (fl5 v) (fun y0 => K (.exit 0) (osh5kx0.enc (((), ()), (y0, ())))) | none => none) else (none)
def J (k : Nat) : Inl R := noInl
theorem step5 (k n : Nat) (K : AExit → St → Option R) : ∀ v, aloop (aexec (env k) (J k) (L k) ((findLoop 5 (codeOf Try.f61)).getD .skip)) (normSt [(0, .asis), (1, .asis), (2, .asis), (3, .asis), (9, .asis), (10, .asis), (11, .asis), (21, .asis), (22, .asis)]) (normSt [(9, .asis)]) K (n + 1) (sh5.enc (un5 v)) = s5 (R := R) k (fun w => aloop (aexec (env k) (J k) (L k) ((findLoop 5 (codeOf Try.f61)).getD .skip)) (normSt [(0, .asis), (1, .asis), (2, .asis), (3, .asis), (9, .asis), (10, .asis), (11, .asis), (21, .asis), (22, .asis)]) (normSt [(9, .asis)]) K n (sh5.enc (un5 w))) (fun y0 => K (.exit 0) (osh5kx0.enc (((), ()), (y0, ())))) v := by intro v; kernel_rfl
theorem eq (k : Nat) : ∀ a, aexec (env k) (J k) (L k) (codeOf Try.f61) (begSt [.ro (.int .i64), .ro (.sl 2 (.int .i64)), .ro (.int .i64), .ro (.int .i64)] a) (finK (env k) Try.f61 [.ro (.int .i64), .ro (.sl 2 (.int .i64)), .ro (.int .i64), .ro (.int .i64)] [.own (.sl 2 (.int .i64))]) = (entry k).fn a := by intro a; kernel_rfl
theorem run5 (k : Nat) (K : AExit → St → Option R) : ∀ n v, aloop (aexec (env k) (J k) (L k) ((findLoop 5 (codeOf Try.f61)).getD .skip)) (normSt [(0, .asis), (1, .asis), (2, .asis), (3, .asis), (9, .asis), (10, .asis), (11, .asis), (21, .asis), (22, .asis)]) (normSt [(9, .asis)]) K n (sh5.enc (un5 v)) = l5 (R := R) k n v (fun y0 => K (.exit 0) (osh5kx0.enc (((), ()), (y0, ())))) := loop_eq (fun n v => aloop (aexec (env k) (J k) (L k) ((findLoop 5 (codeOf Try.f61)).getD .skip)) (normSt [(0, .asis), (1, .asis), (2, .asis), (3, .asis), (9, .asis), (10, .asis), (11, .asis), (21, .asis), (22, .asis)]) (normSt [(9, .asis)]) K n (sh5.enc (un5 v))) (fun n v => l5 (R := R) k n v (fun y0 => K (.exit 0) (osh5kx0.enc (((), ()), (y0, ()))))) (fun X v => s5 (R := R) k X (fun y0 => K (.exit 0) (osh5kx0.enc (((), ()), (y0, ())))) v) (fun _ => rfl) (fun n v => step5 k n K v) (fun n v => rfl)
theorem loops (k : Nat) : LoopsOk (env k) (J k) (L k) (codeOf Try.f61) := by
  intro c an hc han s K r h
  unfold L at h
  by_cases q5 : firstRegion c = 5
  · have h1 := key_eq q5 h
    rw [q5] at hc han
    have e2 : an = ⟨[(0, .asis), (1, .asis), (2, .asis), (3, .asis), (9, .asis), (10, .asis), (11, .asis), (21, .asis), (22, .asis)], [(9, .asis)]⟩ := (Option.some.inj (show some _ = some an from han)).symm
    have e1 : c = (findLoop 5 (codeOf Try.f61)).getD .skip := by rw [hc]; rfl
    cases hd : sh5.dec s with
    | none => rw [hd] at h1; cases h1
    | some v =>
      rw [hd] at h1
      refine ⟨k, ?_⟩
      rw [e1, e2, Shape.dec_enc _ _ _ hd]
      exact (run5 k K k (fl5 v)).trans h1
  have h := not_key q5 h
  cases h
theorem fit (k : Nat) : codeFit (env k) (codeOf Try.f61) = true := by kernel_rfl
theorem lps : (loopsIn (codeOf Try.f61)).map (fun d => findLoop (firstRegion d) (codeOf Try.f61)) = (loopsIn (codeOf Try.f61)).map some := by kernel_rfl
theorem hf : Try.prog.funcs[61]? = some Try.f61 := by kernel_rfl
theorem hb : Try.f61.body = some (codeOf Try.f61) := by kernel_rfl
theorem hn : (Try.f61.name == "runtime.NumGoroutine") = false := by kernel_rfl
theorem hJ (k : Nat) : ∀ C : Ctx, C.P = Try.prog → ∀ r, InlOk C (J k) r := fun C hC r => noInl_ok
theorem sound (k : Nat) : Sound Try.prog 61 (entry k) := func_sound (E := env k) (by kernel_rfl) (by kernel_rfl) (by kernel_rfl) (by kernel_rfl) (tbl_cons (slices_Contains_int64_int64.sound k) tbl_nil) hf hb hn (fit k) (loops_all lps) (hJ k) (loops k) (eq k)
end impl_splitChips

namespace impl_awarded
def entry (k : Nat) : Entry := ⟨[.ro (.sl 34 (.pair (.int .i64) (.pair (.sl 2 (.int .i64)) .unit))), .ro (.sl 2 (.int .i64)), .ro (.sl 2 (.int .i64)), .ro (.int .i64)], [.own (.sl 2 (.int .i64))], fun (a0, (a1, (a2, (a3, _)))) => f k a0 a1 a2 a3⟩
def tbl (k : Nat) : List (Nat × Option Entry) := [(61, some (impl_splitChips.entry k)), (64, some (impl_highWinners.entry k)), (65, some (impl_lowWinners.entry k))]
abbrev R := Res [.own (.sl 2 (.int .i64))] × Outs [.ro (.sl 34 (.pair (.int .i64) (.pair (.sl 2 (.int .i64)) .unit))), .ro (.sl 2 (.int .i64)), .ro (.sl 2 (.int .i64)), .ro (.int .i64)]
def env (k : Nat) : Env := ⟨Try.prog, 85, AM.look none (tbl k), AM.look none [(5, some ⟨[(1, .asis), (2, .asis), (10, .asis), (11, .asis), (21, .asis), (22, .asis), (23, .asis)], [(10, .asis)]⟩)]⟩
def sh5 : Shape := ⟨[(1, .val (.sl 2 (.int .i64))), (2, .val (.sl 2 (.int .i64))), (10, .pc 1 0), (11, .fn 101 [.pc 2 0, .pc 3 0, .pc 1 0]), (21, .val (.sl 34 (.pair (.int .i64) (.pair (.sl 2 (.int .i64)) .unit)))), (22, .val (.int .i64)), (23, .val (.int .i64))], [(0, .row 2 (.int .i64)), (1, .cell [.ref 0]), (2, .cell [.val (.int .i64)]), (3, .cell [.val (.int .i64)])], 4, []⟩
def osh5kx0 : Shape := ⟨[(10, .pc 1 0)], [(0, .row 2 (.int .i64)), (1, .cell [.ref 0])], 2, []⟩
def un5 : (List Int) × (List Int) × (List (Int × ((List Int) × Unit))) × Int × Int × (List Int) × Int × Int → sh5.V := fun (x1, x2, x21, x22, x23, y0, z2_0, z3_0) => ((x1, (x2, ((), ((), (x21, (x22, (x23, ()))))))), (y0, (((), ()), ((z2_0, ()), ((z3_0, ()), ())))))
def fl5 : sh5.V → (List Int) × (List Int) × (List (Int × ((List Int) × Unit))) × Int × Int × (List Int) × Int × Int := fun ((x1, (x2, (_, (_, (x21, (x22, (x23, _))))))), (y0, ((_, _), ((z2_0, _), ((z3_0, _), _))))) => (x1, x2, x21, x22, x23, y0, z2_0, z3_0)
def L (k : Nat) (q : Nat) (s : St) (K : AExit → St → Option R) : Option R := bif Nat.beq q 5 then (match sh5.dec s with | some v => l5 (R := R) k k (fl5 v) (fun y0 => K (.exit 0) (osh5kx0.enc (((), ()), (y0, (((), ()), ()))))) | none => none) else (none)
def i10005_env (k : Nat) : Env := ⟨Try.prog, 28, AM.look none (tbl k), AM.look none [(1, some ⟨[(4, .asis), (13, .asis), (14, .asis), (15, .asis), (4096, .asis), (4097, .asis), (4098, .asis), (4099, .asis), (4100, .asis), (4101, .asis), (4102, .asis), (4103, .asis), (4104, .asis)], [(4096, .asis), (4097, .asis), (4098, .asis), (4099, .asis), (4100, .asis), (4101, .asis), (4102, .asis), (4103, .asis), (4104, .asis)]⟩)]⟩
def shi10005_1 : Shape := ⟨[(4, .pc 1 0), (13, .ref 2), (14, .val (.int .i64)), (15, .val (.int .i64)), (4096, .val (.sl 2 (.int .i64))), (4097, .val (.sl 2 (.int .i64))), (4098, .pc 1 0), (4099, .fn 101 [.pc 3 0, .pc 4 0, .pc 1 0]), (4100, .pc 5 0), (4101, .ref 6), (4102, .val (.sl 34 (.pair (.int .i64) (.pair (.sl 2 (.int .i64)) .unit)))), (4103, .val (.int .i64)), (4104, .val (.int .i64))], [(0, .row 2 (.int .i64)), (1, .cell [.ref 0]), (2, .row 2 (.int .i64)), (3, .cell [.val (.int .i64)]), (4, .cell [.val (.int .i64)]), (5, .cell [.val (.int .i64), .val (.sl 2 (.int .i64))]), (6, .row 2 (.int .i64))], 7, []⟩
def oshi10005_1kx0 : Shape := ⟨[(4096, .val (.sl 2 (.int .i64))), (4097, .val (.sl 2 (.int .i64))), (4098, .pc 1 0), (4099, .fn 101 [.pc 2 0, .pc 3 0, .pc 1 0]), (4100, .pc 4 0), (4101, .ref 5), (4102, .val (.sl 34 (.pair (.int .i64) (.pair (.sl 2 (.int .i64)) .unit)))), (4103, .val (.int .i64)), (4104, .val (.int .i64))], [(0, .row 2 (.int .i64)), (1, .cell [.ref 0]), (2, .cell [.val (.int .i64)]), (3, .cell [.val (.int .i64)]), (4, .cell [.val (.int .i64), .val (.sl 2 (.int .i64))]), (5, .row 2 (.int .i64))], 6, []⟩
def uni10005_1 : Int × Int × (List Int) × (List Int) × (List (Int × ((List Int) × Unit))) × Int × Int × (List Int) × (List Int) × Int × Int × Int × (List Int) × (List Int) → shi10005_1.V := fun (x14, x15, x4096, x4097, x4102, x4103, x4104, y0, y2, z3_0, z4_0, z5_0, z5_1, y6) => (((), ((), (x14, (x15, (x4096, (x4097, ((), ((), ((), ((), (x4102, (x4103, (x4104, ()))))))))))))), (y0, (((), ()), (y2, ((z3_0, ()), ((z4_0, ()), ((z5_0, (z5_1, ())), (y6, ()))))))))
def fli10005_1 : shi10005_1.V → Int × Int × (List Int) × (List Int) × (List (Int × ((List Int) × Unit))) × Int × Int × (List Int) × (List Int) × Int × Int × Int × (List Int) × (List Int) := fun ((_, (_, (x14, (x15, (x4096, (x4097, (_, (_, (_, (_, (x4102, (x4103, (x4104, _))))))))))))), (y0, ((_, _), (y2, ((z3_0, _), ((z4_0, _), ((z5_0, (z5_1, _)), (y6, _)))))))) => (x14, x15, x4096, x4097, x4102, x4103, x4104, y0, y2, z3_0, z4_0, z5_0, z5_1, y6)
def i10005_L (k : Nat) (q : Nat) (s : St) (K : AExit → St → Option R) : Option R := bif Nat.beq q 1 then (match shi10005_1.dec s with | some v => i10005_l1 (R := R) k k (fli10005_1 v) (fun (x4096, x4097, x4102, x4103, x4104, y0, z2_0, z3_0, z4_0, z4_1, y5) => K (.exit 0) (oshi10005_1kx0.enc ((x4096, (x4097, ((), ((), ((), ((), (x4102, (x4103, (x4104, ()))))))))), (y0, (((), ()), ((z2_0, ()), ((z3_0, ()), ((z4_0, (z4_1, ())), (y5, ()))))))))) | none => none) else (none)
def i11008_env (k : Nat) : Env := ⟨Try.prog, 28, AM.look none (tbl k), AM.look none [(1, some ⟨[(4, .asis), (13, .asis), (14, .asis), (15, .asis), (4096, .asis), (4097, .asis), (4098, .asis), (4099, .asis), (4100, .asis), (4101, .asis), (4102, .asis)], [(4096, .asis), (4097, .asis), (4098, .asis), (4099, .asis), (4100, .asis), (4101, .asis), (4102, .asis)]⟩)]⟩
def shi11008_1 : Shape := ⟨[(4, .pc 1 0), (13, .ref 2), (14, .val (.int .i64)), (15, .val (.int .i64)), (4096, .val (.sl 2 (.int .i64))), (4097, .val (.sl 2 (.int .i64))), (4098, .pc 1 0), (4099, .fn 101 [.pc 3 0, .pc 4 0, .pc 1 0]), (4100, .val (.sl 34 (.pair (.int .i64) (.pair (.sl 2 (.int .i64)) .unit)))), (4101, .val (.int .i64)), (4102, .val (.int .i64))], [(0, .row 2 (.int .i64)), (1, .cell [.ref 0]), (2, .row 2 (.int .i64)), (3, .cell [.val (.int .i64)]), (4, .cell [.val (.int .i64)])], 5, []⟩
def oshi11008_1kx0 : Shape := ⟨[(4096, .val (.sl 2 (.int .i64))), (4097, .val (.sl 2 (.int .i64))), (4098, .pc 1 0), (4099, .fn 101 [.pc 2 0, .pc 3 0, .pc 1 0]), (4100, .val (.sl 34 (.pair (.int .i64) (.pair (.sl 2 (.int .i64)) .unit)))), (4101, .val (.int .i64)), (4102, .val (.int .i64))], [(0, .row 2 (.int .i64)), (1, .cell [.ref 0]), (2, .cell [.val (.int .i64)]), (3, .cell [.val (.int .i64)])], 4, []⟩
def uni11008_1 : Int × Int × (List Int) × (List Int) × (List (Int × ((List Int) × Unit))) × Int × Int × (List Int) × (List Int) × Int × Int → shi11008_1.V := fun (x14, x15, x4096, x4097, x4100, x4101, x4102, y0, y2, z3_0, z4_0) => (((), ((), (x14, (x15, (x4096, (x4097, ((), ((), (x4100, (x4101, (x4102, ()))))))))))), (y0, (((), ()), (y2, ((z3_0, ()), ((z4_0, ()), ()))))))
def fli11008_1 : shi11008_1.V → Int × Int × (List Int) × (List Int) × (List (Int × ((List Int) × Unit))) × Int × Int × (List Int) × (List Int) × Int × Int := fun ((_, (_, (x14, (x15, (x4096, (x4097, (_, (_, (x4100, (x4101, (x4102, _))))))))))), (y0, ((_, _), (y2, ((z3_0, _), ((z4_0, _), _)))))) => (x14, x15, x4096, x4097, x4100, x4101, x4102, y0, y2, z3_0, z4_0)
def i11008_L (k : Nat) (q : Nat) (s : St) (K : AExit → St → Option R) : Option R := bif Nat.beq q 1 then (match shi11008_1.dec s with | some v => i11008_l1 (R := R) k k (fli11008_1 v) (fun (x4096, x4097, x4100, x4101, x4102, y0, z2_0, z3_0) => K (.exit 0) (oshi11008_1kx0.enc ((x4096, (x4097, ((), ((), (x4100, (x4101, (x4102, ()))))))), (y0, (((), ()), ((z2_0, ()), ((z3_0, ()), ()))))))) | none => none) else (none)
def i13004_env (k : Nat) : Env := ⟨Try.prog, 28, AM.look none (tbl k), AM.look none [(1, some ⟨[(4, .asis), (13, .asis), (14, .asis), (15, .asis), (4096, .asis), (4097, .asis), (4098, .asis), (4099, .asis), (4100, .asis), (4101, .asis), (4102, .asis)], [(4096, .asis), (4097, .asis), (4098, .asis), (4099, .asis), (4100, .asis), (4101, .asis), (4102, .asis)]⟩)]⟩
def shi13004_1 : Shape := ⟨[(4, .pc 1 0), (13, .ref 2), (14, .val (.int .i64)), (15, .val (.int .i64)), (4096, .val (.sl 2 (.int .i64))), (4097, .val (.sl 2 (.int .i64))), (4098, .pc 1 0), (4099, .fn 101 [.pc 3 0, .pc 4 0, .pc 1 0]), (4100, .val (.sl 34 (.pair (.int .i64) (.pair (.sl 2 (.int .i64)) .unit)))), (4101, .val (.int .i64)), (4102, .val (.int .i64))], [(0, .row 2 (.int .i64)), (1, .cell [.ref 0]), (2, .row 2 (.int .i64)), (3, .cell [.val (.int .i64)]), (4, .cell [.val (.int .i64)])], 5, []⟩
def oshi13004_1kx0 : Shape := ⟨[(4096, .val (.sl 2 (.int .i64))), (4097, .val (.sl 2 (.int .i64))), (4098, .pc 1 0), (4099, .fn 101 [.pc 2 0, .pc 3 0, .pc 1 0]), (4100, .val (.sl 34 (.pair (.int .i64) (.pair (.sl 2 (.int .i64)) .unit)))), (4101, .val (.int .i64)), (4102, .val (.int .i64))], [(0, .row 2 (.int .i64)), (1, .cell [.ref 0]), (2, .cell [.val (.int .i64)]), (3, .cell [.val (.int .i64)])], 4, []⟩
def uni13004_1 : Int × Int × (List Int) × (List Int) × (List (Int × ((List Int) × Unit))) × Int × Int × (List Int) × (List Int) × Int × Int → shi13004_1.V := fun (x14, x15, x4096, x4097, x4100, x4101, x4102, y0, y2, z3_0, z4_0) => (((), ((), (x14, (x15, (x4096, (x4097, ((), ((), (x4100, (x4101, (x4102, ()))))))))))), (y0, (((), ()), (y2, ((z3_0, ()), ((z4_0, ()), ()))))))
def fli13004_1 : shi13004_1.V → Int × Int × (List Int) × (List Int) × (List (Int × ((List Int) × Unit))) × Int × Int × (List Int) × (List Int) × Int × Int := fun ((_, (_, (x14, (x15, (x4096, (x4097, (_, (_, (x4100, (x4101, (x4102, _))))))))))), (y0, ((_, _), (y2, ((z3_0, _), ((z4_0, _), _)))))) => (x14, x15, x4096, x4097, x4100, x4101, x4102, y0, y2, z3_0, z4_0)
def i13004_L (k : Nat) (q : Nat) (s : St) (K : AExit → St → Option R) : Option R := bif Nat.beq q 1 then (match shi13004_1.dec s with | some v => i13004_l1 (R := R) k k (fli13004_1 v) (fun (x4096, x4097, x4100, x4101, x4102, y0, z2_0, z3_0) => K (.exit 0) (oshi13004_1kx0.enc ((x4096, (x4097, ((), ((), (x4100, (x4101, (x4102, ()))))))), (y0, (((), ()), ((z2_0, ()), ((z3_0, ()), ()))))))) | none => none) else (none)
def i15004_env (k : Nat) : Env := ⟨Try.prog, 28, AM.look none (tbl k), AM.look none [(1, some ⟨[(4, .asis), (13, .asis), (14, .asis), (15, .asis), (4096, .asis), (4097, .asis), (4098, .asis), (4099, .asis), (4100, .asis), (4101, .asis), (4102, .asis)], [(4096, .asis), (4097, .asis), (4098, .asis), (4099, .asis), (4100, .asis), (4101, .asis), (4102, .asis)]⟩)]⟩
def shi15004_1 : Shape := ⟨[(4, .pc 1 0), (13, .ref 2), (14, .val (.int .i64)), (15, .val (.int .i64)), (4096, .val (.sl 2 (.int .i64))), (4097, .val (.sl 2 (.int .i64))), (4098, .pc 1 0), (4099, .fn 101 [.pc 3 0, .pc 4 0, .pc 1 0]), (4100, .val (.sl 34 (.pair (.int .i64) (.pair (.sl 2 (.int .i64)) .unit)))), (4101, .val (.int .i64)), (4102, .val (.int .i64))], [(0, .row 2 (.int .i64)), (1, .cell [.ref 0]), (2, .row 2 (.int .i64)), (3, .cell [.val (.int .i64)]), (4, .cell [.val (.int .i64)])], 5, []⟩
def oshi15004_1kx0 : Shape := ⟨[(4096, .val (.sl 2 (.int .i64))), (4097, .val (.sl 2 (.int .i64))), (4098, .pc 1 0), (4099, .fn 101 [.pc 2 0, .pc 3 0, .pc 1 0]), (4100, .val (.sl 34 (.pair (.int .i64) (.pair (.sl 2 (.int .i64)) .unit)))), (4101, .val (.int .i64)), (4102, .val (.int .i64))], [(0, .row 2 (.int .i64)), (1, .cell [.ref 0]), (2, .cell [.val (.int .i64)]), (3, .cell [.val (.int .i64)])], 4, []⟩
def uni15004_1 : Int × Int × (List Int) × (List Int) × (List (Int × ((List Int) × Unit))) × Int × Int × (List Int) × (List Int) × Int × Int → shi15004_1.V := fun (x14, x15, x4096, x4097, x4100, x4101, x4102, y0, y2, z3_0, z4_0) => (((), ((), (x14, (x15, (x4096, (x4097, ((), ((), (x4100, (x4101, (x4102, ()))))))))))), (y0, (((), ()), (y2, ((z3_0, ()), ((z4_0, ()), ()))))))
def fli15004_1 : shi15004_1.V → Int × Int × (List Int) × (List Int) × (List (Int × ((List Int) × Unit))) × Int × Int × (List Int) × (List Int) × Int × Int := fun ((_, (_, (x14, (x15, (x4096, (x4097, (_, (_, (x4100, (x4101, (x4102, _))))))))))), (y0, ((_, _), (y2, ((z3_0, _), ((z4_0, _), _)))))) => (x14, x15, x4096, x4097, x4100, x4101, x4102, y0, y2, z3_0, z4_0)
def i15004_L (k : Nat) (q : Nat) (s : St) (K : AExit → St → Option R) : Option R := bif Nat.beq q 1 then (match shi15004_1.dec s with | some v => i15004_l1 (R := R) k k (fli15004_1 v) (fun (x4096, x4097, x4100, x4101, x4102, y0, z2_0, z3_0) => K (.exit 0) (oshi15004_1kx0.enc ((x4096, (x4097, ((), ((), (x4100, (x4101, (x4102, ()))))))), (y0, (((), ()), ((z2_0, ()), ((z3_0, ()), ()))))))) | none => none) else (none)
def i8005_env (k : Nat) : Env := ⟨Try.prog, 28, AM.look none (tbl k), AM.look none [(1, some ⟨[(4, .asis), (13, .asis), (14, .asis), (15, .asis), (4096, .asis), (4097, .asis), (4098, .asis), (4099, .asis), (4100, .asis), (4101, .asis), (4102, .asis)], [(4096, .asis), (4097, .asis), (4098, .asis), (4099, .asis), (4100, .asis), (4101, .asis), (4102, .asis)]⟩)]⟩
def shi8005_1 : Shape := ⟨[(4, .pc 1 0), (13, .ref 2), (14, .val (.int .i64)), (15, .val (.int .i64)), (4096, .val (.sl 2 (.int .i64))), (4097, .val (.sl 2 (.int .i64))), (4098, .pc 1 0), (4099, .fn 101 [.pc 3 0, .pc 4 0, .pc 1 0]), (4100, .val (.sl 34 (.pair (.int .i64) (.pair (.sl 2 (.int .i64)) .unit)))), (4101, .val (.int .i64)), (4102, .val (.int .i64))], [(0, .row 2 (.int .i64)), (1, .cell [.ref 0]), (2, .row 2 (.int .i64)), (3, .cell [.val (.int .i64)]), (4, .cell [.val (.int .i64)])], 5, []⟩
def oshi8005_1kx0 : Shape := ⟨[(4096, .val (.sl 2 (.int .i64))), (4097, .val (.sl 2 (.int .i64))), (4098, .pc 1 0), (4099, .fn 101 [.pc 2 0, .pc 3 0, .pc 1 0]), (4100, .val (.sl 34 (.pair (.int .i64) (.pair (.sl 2 (.int .i64)) .unit)))), (4101, .val (.int .i64)), (4102, .val (.int .i64))], [(0, .row 2 (.int .i64)), (1, .cell [.ref 0]), (2, .cell [.val (.int .i64)]), (3, .cell [.val (.int .i64)])], 4, []⟩
def uni8005_1 : Int × Int × (List Int) × (List Int) × (List (Int × ((List Int) × Unit))) × Int × Int × (List Int) × (List Int) × Int × Int → shi8005_1.V := fun (x14, x15, x4096, x4097, x4100, x4101, x4102, y0, y2, z3_0, z4_0) => (((), ((), (x14, (x15, (x4096, (x4097, ((), ((), (x4100, (x4101, (x4102, ()))))))))))), (y0, (((), ()), (y2, ((z3_0, ()), ((z4_0, ()), ()))))))
def fli8005_1 : shi8005_1.V → Int × Int × (List Int) × (List Int) × (List (Int × ((List Int) × Unit))) × Int × Int × (List Int) × (List Int) × Int × Int := fun ((_, (_, (x14, (x15, (x4096, (x4097, (_, (_, (x4100, (x4101, (x4102, _))))))))))), (y0, ((_, _), (y2, ((z3_0, _), ((z4_0, _), _)))))) => (x14, x15, x4096, x4097, x4100, x4101, x4102, y0, y2, z3_0, z4_0)
def i8005_L (k : Nat) (q : Nat) (s : St) (K : AExit → St → Option R) : Option R := bif Nat.beq q 1 then (match shi8005_1.dec s with | some v => i8005_l1 (R := R) k k (fli8005_1 v) (fun (x4096, x4097, x4100, x4101, x4102, y0, z2_0, z3_0) => K (.exit 0) (oshi8005_1kx0.enc ((x4096, (x4097, ((), ((), (x4100, (x4101, (x4102, ()))))))), (y0, (((), ()), ((z2_0, ()), ((z3_0, ()), ()))))))) | none => none) else (none)
def i8005_J (k : Nat) : Inl R := noInl
def i15004_J (k : Nat) : Inl R := noInl
def i13004_J (k : Nat) : Inl R := noInl
def i11008_J (k : Nat) : Inl R := noInl
def i10005_J (k : Nat) : Inl R := noInl
def J (k : Nat) : Inl R := (inlCons 10005 101 (inst (i10005_env k) (i10005_J k) (i10005_L k) Try.f101 [1, 2, 10, 11, 13, 14, 21, 22, 23]) (inlCons 11008 101 (inst (i11008_env k) (i11008_J k) (i11008_L k) Try.f101 [1, 2, 10, 11, 21, 22, 23]) (inlCons 13004 101 (inst (i13004_env k) (i13004_J k) (i13004_L k) Try.f101 [1, 2, 10, 11, 21, 22, 23]) (inlCons 15004 101 (inst (i15004_env k) (i15004_J k) (i15004_L k) Try.f101 [1, 2, 10, 11, 21, 22, 23]) (inlCons 8005 101 (inst (i8005_env k) (i8005_J k) (i8005_L k) Try.f101 [1, 2, 10, 11, 21, 22, 23]) noInl)))))
theorem step5 (k n : Nat) (K : AExit → St → Option R) : ∀ v, aloop (aexec (env k) (J k) (L k) ((findLoop 5 (codeOf Try.f77)).getD .skip)) (normSt [(1, .asis), (2, .asis), (10, .asis), (11, .asis), (21, .asis), (22, .asis), (23, .asis)]) (normSt [(10, .asis)]) K (n + 1) (sh5.enc (un5 v)) = s5 (R := R) k (fun w => aloop (aexec (env k) (J k) (L k) ((findLoop 5 (codeOf Try.f77)).getD .skip)) (normSt [(1, .asis), (2, .asis), (10, .asis), (11, .asis), (21, .asis), (22, .asis), (23, .asis)]) (normSt [(10, .asis)]) K n (sh5.enc (un5 w))) (fun y0 => K (.exit 0) (osh5kx0.enc (((), ()), (y0, (((), ()), ()))))) v := by intro v; kernel_rfl
theorem stepi10005_1 (k n : Nat) (K : AExit → St → Option R) : ∀ v, aloop (aexec (i10005_env k) (i10005_J k) (i10005_L k) ((findLoop 1 (codeOf Try.f101)).getD .skip)) (normSt [(4, .asis), (13, .asis), (14, .asis), (15, .asis), (4096, .asis), (4097, .asis), (4098, .asis), (4099, .asis), (4100, .asis), (4101, .asis), (4102, .asis), (4103, .asis), (4104, .asis)]) (normSt [(4096, .asis), (4097, .asis), (4098, .asis), (4099, .asis), (4100, .asis), (4101, .asis), (4102, .asis), (4103, .asis), (4104, .asis)]) K (n + 1) (shi10005_1.enc (uni10005_1 v)) = i10005_s1 (R := R) k (fun w => aloop (aexec (i10005_env k) (i10005_J k) (i10005_L k) ((findLoop 1 (codeOf Try.f101)).getD .skip)) (normSt [(4, .asis), (13, .asis), (14, .asis), (15, .asis), (4096, .asis), (4097, .asis), (4098, .asis), (4099, .asis), (4100, .asis), (4101, .asis), (4102, .asis), (4103, .asis), (4104, .asis)]) (normSt [(4096, .asis), (4097, .asis), (4098, .asis), (4099, .asis), (4100, .asis), (4101, .asis), (4102, .asis), (4103, .asis), (4104, .asis)]) K n (shi10005_1.enc (uni10005_1 w))) (fun (x4096, x4097, x4102, x4103, x4104, y0, z2_0, z3_0, z4_0, z4_1, y5) => K (.exit 0) (oshi10005_1kx0.enc ((x4096, (x4097, ((), ((), ((), ((), (x4102, (x4103, (x4104, ()))))))))), (y0, (((), ()), ((z2_0, ()), ((z3_0, ()), ((z4_0, (z4_1, ())), (y5, ()))))))))) v := by intro v; kernel_rfl
theorem stepi11008_1 (k n : Nat) (K : AExit → St → Option R) : ∀ v, aloop (aexec (i11008_env k) (i11008_J k) (i11008_L k) ((findLoop 1 (codeOf Try.f101)).getD .skip)) (normSt [(4, .asis), (13, .asis), (14, .asis), (15, .asis), (4096, .asis), (4097, .asis), (4098, .asis), (4099, .asis), (4100, .asis), (4101, .asis), (4102, .asis)]) (normSt [(4096, .asis), (4097, .asis), (4098, .asis), (4099, .asis), (4100, .asis), (4101, .asis), (4102, .asis)]) K (n + 1) (shi11008_1.enc (uni11008_1 v)) = i11008_s1 (R := R) k (fun w => aloop (aexec (i11008_env k) (i11008_J k) (i11008_L k) ((findLoop 1 (codeOf Try.f101)).getD .skip)) (normSt [(4, .asis), (13, .asis), (14, .asis), (15, .asis), (4096, .asis), (4097, .asis), (4098, .asis), (4099, .asis), (4100, .asis), (4101, .asis), (4102, .asis)]) (normSt [(4096, .asis), (4097, .asis), (4098, .asis), (4099, .asis), (4100, .asis), (4101, .asis), (4102, .asis)]) K n (shi11008_1.enc (uni11008_1 w))) (fun (x4096, x4097, x4100, x4101, x4102, y0, z2_0, z3_0) => K (.exit 0) (oshi11008_1kx0.enc ((x4096, (x4097, ((), ((), (x4100, (x4101, (x4102, ()))))))), (y0, (((), ()), ((z2_0, ()), ((z3_0, ()), ()))))))) v := by intro v; kernel_rfl
theorem stepi13004_1 (k n : Nat) (K : AExit → St → Option R) : ∀ v, aloop (aexec (i13004_env k) (i13004_J k) (i13004_L k) ((findLoop 1 (codeOf Try.f101)).getD .skip)) (normSt [(4, .asis), (13, .asis), (14, .asis), (15, .asis), (4096, .asis), (4097, .asis), (4098, .asis), (4099, .asis), (4100, .asis), (4101, .asis), (4102, .asis)]) (normSt [(4096, .asis), (4097, .asis), (4098, .asis), (4099, .asis), (4100, .asis), (4101, .asis), (4102, .asis)]) K (n + 1) (shi13004_1.enc (uni13004_1 v)) = i13004_s1 (R := R) k (fun w => aloop (aexec (i13004_env k) (i13004_J k) (i13004_L k) ((findLoop 1 (codeOf Try.f101)).getD .skip)) (normSt [(4, .asis), (13, .asis), (14, .asis), (15, .asis), (4096, .asis), (4097, .asis), (4098, .asis), (4099, .asis), (4100, .asis), (4101, .asis), (4102, .asis)]) (normSt [(4096, .asis), (4097, .asis), (4098, .asis), (4099, .asis), (4100, .asis), (4101, .asis), (4102, .asis)]) K n (shi13004_1.enc (uni13004_1 w))) (fun (x4096, x4097, x4100, x4101, x4102, y0, z2_0, z3_0) => K (.exit 0) (oshi13004_1kx0.enc ((x4096, (x4097, ((), ((), (x4100, (x4101, (x4102, ()))))))), (y0, (((), ()), ((z2_0, ()), ((z3_0, ()), ()))))))) v := by intro v; kernel_rfl
theorem stepi15004_1 (k n : Nat) (K : AExit → St → Option R) : ∀ v, aloop (aexec (i15004_env k) (i15004_J k) (i15004_L k) ((findLoop 1 (codeOf Try.f101)).getD .skip)) (normSt [(4, .asis), (13, .asis), (14, .asis), (15, .asis), (4096, .asis), (4097, .asis), (4098, .asis), (4099, .asis), (4100, .asis), (4101, .asis), (4102, .asis)]) (normSt [(4096, .asis), (4097, .asis), (4098, .asis), (4099, .asis), (4100, .asis), (4101, .asis), (4102, .asis)]) K (n + 1) (shi15004_1.enc (uni15004_1 v)) = i15004_s1 (R := R) k (fun w => aloop (aexec (i15004_env k) (i15004_J k) (i15004_L k) ((findLoop 1 (codeOf Try.f101)).getD .skip)) (normSt [(4, .asis), (13, .asis), (14, .asis), (15, .asis), (4096, .asis), (4097, .asis), (4098, .asis), (4099, .asis), (4100, .asis), (4101, .asis), (4102, .asis)]) (normSt [(4096, .asis), (4097, .asis), (4098, .asis), (4099, .asis), (4100, .asis), (4101, .asis), (4102, .asis)]) K n (shi15004_1.enc (uni15004_1 w))) (fun (x4096, x4097, x4100, x4101, x4102, y0, z2_0, z3_0) => K (.exit 0) (oshi15004_1kx0.enc ((x4096, (x4097, ((), ((), (x4100, (x4101, (x4102, ()))))))), (y0, (((), ()), ((z2_0, ()), ((z3_0, ()), ()))))))) v := by intro v; kernel_rfl
theorem stepi8005_1 (k n : Nat) (K : AExit → St → Option R) : ∀ v, aloop (aexec (i8005_env k) (i8005_J k) (i8005_L k) ((findLoop 1 (codeOf Try.f101)).getD .skip)) (normSt [(4, .asis), (13, .asis), (14, .asis), (15, .asis), (4096, .asis), (4097, .asis), (4098, .asis), (4099, .asis), (4100, .asis), (4101, .asis), (4102, .asis)]) (normSt [(4096, .asis), (4097, .asis), (4098, .asis), (4099, .asis), (4100, .asis), (4101, .asis), (4102, .asis)]) K (n + 1) (shi8005_1.enc (uni8005_1 v)) = i8005_s1 (R := R) k (fun w => aloop (aexec (i8005_env k) (i8005_J k) (i8005_L k) ((findLoop 1 (codeOf Try.f101)).getD .skip)) (normSt [(4, .asis), (13, .asis), (14, .asis), (15, .asis), (4096, .asis), (4097, .asis), (4098, .asis), (4099, .asis), (4100, .asis), (4101, .asis), (4102, .asis)]) (normSt [(4096, .asis), (4097, .asis), (4098, .asis), (4099, .asis), (4100, .asis), (4101, .asis), (4102, .asis)]) K n (shi8005_1.enc (uni8005_1 w))) (fun (x4096, x4097, x4100, x4101, x4102, y0, z2_0, z3_0) => K (.exit 0) (oshi8005_1kx0.enc ((x4096, (x4097, ((), ((), (x4100, (x4101, (x4102, ()))))))), (y0, (((), ()), ((z2_0, ()), ((z3_0, ()), ()))))))) v := by intro v; kernel_rfl
theorem eq (k : Nat) : ∀ a, aexec (env k) (J k) (L k) (codeOf Try.f77) (begSt [.ro (.sl 34 (.pair (.int .i64) (.pair (.sl 2 (.int .i64)) .unit))), .ro (.sl 2 (.int .i64)), .ro (.sl 2 (.int .i64)), .ro (.int .i64)] a) (finK (env k) Try.f77 [.ro (.sl 34 (.pair (.int .i64) (.pair (.sl 2 (.int .i64)) .unit))), .ro (.sl 2 (.int .i64)), .ro (.sl 2 (.int .i64)), .ro (.int .i64)] [.own (.sl 2 (.int .i64))]) = (entry k).fn a := by intro a; kernel_rfl
theorem run5 (k : Nat) (K : AExit → St → Option R) : ∀ n v, aloop (aexec (env k) (J k) (L k) ((findLoop 5 (codeOf Try.f77)).getD .skip)) (normSt [(1, .asis), (2, .asis), (10, .asis), (11, .asis), (21, .asis), (22, .asis), (23, .asis)]) (normSt [(10, .asis)]) K n (sh5.enc (un5 v)) = l5 (R := R) k n v (fun y0 => K (.exit 0) (osh5kx0.enc (((), ()), (y0, (((), ()), ()))))) := loop_eq (fun n v => aloop (aexec (env k) (J k) (L k) ((findLoop 5 (codeOf Try.f77)).getD .skip)) (normSt [(1, .asis), (2, .asis), (10, .asis), (11, .asis), (21, .asis), (22, .asis), (23, .asis)]) (normSt [(10, .asis)]) K n (sh5.enc (un5 v))) (fun n v => l5 (R := R) k n v (fun y0 => K (.exit 0) (osh5kx0.enc (((), ()), (y0, (((), ()), ())))))) (fun X v => s5 (R := R) k X (fun y0 => K (.exit 0) (osh5kx0.enc (((), ()), (y0, (((), ()), ()))))) v) (fun _ => rfl) (fun n v => step5 k n K v) (fun n v => rfl)
theorem loops (k : Nat) : LoopsOk (env k) (J k) (L k) (codeOf Try.f77) := by
  intro c an hc han s K r h
  unfold L at h
  by_cases q5 : firstRegion c = 5
  · have h1 := key_eq q5 h
    rw [q5] at hc han
    have e2 : an = ⟨[(1, .asis), (2, .asis), (10, .asis), (11, .asis), (21, .asis), (22, .asis), (23, .asis)], [(10, .asis)]⟩ := (Option.some.inj (show some _ = some an from han)).symm
    have e1 : c = (findLoop 5 (codeOf Try.f77)).getD .skip := by rw [hc]; rfl
    cases hd : sh5.dec s with
    | none => rw [hd] at h1; cases h1
    | some v =>
      rw [hd] at h1
      refine ⟨k, ?_⟩
      rw [e1, e2, Shape.dec_enc _ _ _ hd]
      exact (run5 k K k (fl5 v)).trans h1
  have h := not_key q5 h
  cases h
theorem runi10005_1 (k : Nat) (K : AExit → St → Option R) : ∀ n v, aloop (aexec (i10005_env k) (i10005_J k) (i10005_L k) ((findLoop 1 (codeOf Try.f101)).getD .skip)) (normSt [(4, .asis), (13, .asis), (14, .asis), (15, .asis), (4096, .asis), (4097, .asis), (4098, .asis), (4099, .asis), (4100, .asis), (4101, .asis), (4102, .asis), (4103, .asis), (4104, .asis)]) (normSt [(4096, .asis), (4097, .asis), (4098, .asis), (4099, .asis), (4100, .asis), (4101, .asis), (4102, .asis), (4103, .asis), (4104, .asis)]) K n (shi10005_1.enc (uni10005_1 v)) = i10005_l1 (R := R) k n v (fun (x4096, x4097, x4102, x4103, x4104, y0, z2_0, z3_0, z4_0, z4_1, y5) => K (.exit 0) (oshi10005_1kx0.enc ((x4096, (x4097, ((), ((), ((), ((), (x4102, (x4103, (x4104, ()))))))))), (y0, (((), ()), ((z2_0, ()), ((z3_0, ()), ((z4_0, (z4_1, ())), (y5, ()))))))))) := loop_eq (fun n v => aloop (aexec (i10005_env k) (i10005_J k) (i10005_L k) ((findLoop 1 (codeOf Try.f101)).getD .skip)) (normSt [(4, .asis), (13, .asis), (14, .asis), (15, .asis), (4096, .asis), (4097, .asis), (4098, .asis), (4099, .asis), (4100, .asis), (4101, .asis), (4102, .asis), (4103, .asis), (4104, .asis)]) (normSt [(4096, .asis), (4097, .asis), (4098, .asis), (4099, .asis), (4100, .asis), (4101, .asis), (4102, .asis), (4103, .asis), (4104, .asis)]) K n (shi10005_1.enc (uni10005_1 v))) (fun n v => i10005_l1 (R := R) k n v (fun (x4096, x4097, x4102, x4103, x4104, y0, z2_0, z3_0, z4_0, z4_1, y5) => K (.exit 0) (oshi10005_1kx0.enc ((x4096, (x4097, ((), ((), ((), ((), (x4102, (x4103, (x4104, ()))))))))), (y0, (((), ()), ((z2_0, ()), ((z3_0, ()), ((z4_0, (z4_1, ())), (y5, ())))))))))) (fun X v => i10005_s1 (R := R) k X (fun (x4096, x4097, x4102, x4103, x4104, y0, z2_0, z3_0, z4_0, z4_1, y5) => K (.exit 0) (oshi10005_1kx0.enc ((x4096, (x4097, ((), ((), ((), ((), (x4102, (x4103, (x4104, ()))))))))), (y0, (((), ()), ((z2_0, ()), ((z3_0, ()), ((z4_0, (z4_1, ())), (y5, ()))))))))) v) (fun _ => rfl) (fun n v => stepi10005_1 k n K v) (fun n v => rfl)
theorem i10005_loops (k : Nat) : LoopsOk (i10005_env k) (i10005_J k) (i10005_L k) (codeOf Try.f101) := by
  intro c an hc han s K r h
  unfold i10005_L at h
  by_cases q1 : firstRegion c = 1
  · have h1 := key_eq q1 h
    rw [q1] at hc han
    have e2 : an = ⟨[(4, .asis), (13, .asis), (14, .asis), (15, .asis), (4096, .asis), (4097, .asis), (4098, .asis), (4099, .asis), (4100, .asis), (4101, .asis), (4102, .asis), (4103, .asis), (4104, .asis)], [(4096, .asis), (4097, .asis), (4098, .asis), (4099, .asis), (4100, .asis), (4101, .asis), (4102, .asis), (4103, .asis), (4104, .asis)]⟩ := (Option.some.inj (show some _ = some an from han)).symm
    have e1 : c = (findLoop 1 (codeOf Try.f101)).getD .skip := by rw [hc]; rfl
    cases hd : shi10005_1.dec s with
    | none => rw [hd] at h1; cases h1
    | some v =>
      rw [hd] at h1
      refine ⟨k, ?_⟩
      rw [e1, e2, Shape.dec_enc _ _ _ hd]
      exact (runi10005_1 k K k (fli10005_1 v)).trans h1
  have h := not_key q1 h
  cases h
theorem runi11008_1 (k : Nat) (K : AExit → St → Option R) : ∀ n v, aloop (aexec (i11008_env k) (i11008_J k) (i11008_L k) ((findLoop 1 (codeOf Try.f101)).getD .skip)) (normSt [(4, .asis), (13, .asis), (14, .asis), (15, .asis), (4096, .asis), (4097, .asis), (4098, .asis), (4099, .asis), (4100, .asis), (4101, .asis), (4102, .asis)]) (normSt [(4096, .asis), (4097, .asis), (4098, .asis), (4099, .asis), (4100, .asis), (4101, .asis), (4102, .asis)]) K n (shi11008_1.enc (uni11008_1 v)) = i11008_l1 (R := R) k n v (fun (x4096, x4097, x4100, x4101, x4102, y0, z2_0, z3_0) => K (.exit 0) (oshi11008_1kx0.enc ((x4096, (x4097, ((), ((), (x4100, (x4101, (x4102, ()))))))), (y0, (((), ()), ((z2_0, ()), ((z3_0, ()), ()))))))) := loop_eq (fun n v => aloop (aexec (i11008_env k) (i11008_J k) (i11008_L k) ((findLoop 1 (codeOf Try.f101)).getD .skip)) (normSt [(4, .asis), (13, .asis), (14, .asis), (15, .asis), (4096, .asis), (4097, .asis), (4098, .asis), (4099, .asis), (4100, .asis), (4101, .asis), (4102, .asis)]) (normSt [(4096, .asis), (4097, .asis), (4098, .asis), (4099, .asis), (4100, .asis), (4101, .asis), (4102, .asis)]) K n (shi11008_1.enc (uni11008_1 v))) (fun n v => i11008_l1 (R := R) k n v (fun (x4096, x4097, x4100, x4101, x4102, y0, z2_0, z3_0) => K (.exit 0) (oshi11008_1kx0.enc ((x4096, (x4097, ((), ((), (x4100, (x4101, (x4102, ()))))))), (y0, (((), ()), ((z2_0, ()), ((z3_0, ()), ())))))))) (fun X v => i11008_s1 (R := R) k X (fun (x4096, x4097, x4100, x4101, x4102, y0, z2_0, z3_0) => K (.exit 0) (oshi11008_1kx0.enc ((x4096, (x4097, ((), ((), (x4100, (x4101, (x4102, ()))))))), (y0, (((), ()), ((z2_0, ()), ((z3_0, ()), ()))))))) v) (fun _ => rfl) (fun n v => stepi11008_1 k n K v) (fun n v => rfl)
theorem i11008_loops (k : Nat) : LoopsOk (i11008_env k) (i11008_J k) (i11008_L k) (codeOf Try.f101) := by
  intro c an hc han s K r h
  unfold i11008_L at h
  by_cases q1 : firstRegion c = 1
  · have h1 := key_eq q1 h
    rw [q1] at hc han
    have e2 : an = ⟨[(4, .asis), (13, .asis), (14, .asis), (15, .asis), (4096, .asis), (4097, .asis), (4098, .asis), (4099, .asis), (4100, .asis), (4101, .asis), (4102, .asis)], [(4096, .asis), (4097, .asis), (4098, .asis), (4099, .asis), (4100, .asis), (4101, .asis), (4102, .asis)]⟩ := (Option.some.inj (show some _ = some an from han)).symm
    have e1 : c = (findLoop 1 (codeOf Try.f101)).getD .skip := by rw [hc]; rfl
    cases hd : shi11008_1.dec s with
    | none => rw [hd] at h1; cases h1
    | some v =>
      rw [hd] at h1
      refine ⟨k, ?_⟩
      rw [e1, e2, Shape.dec_enc _ _ _ hd]
      exact (runi11008_1 k K k (fli11008_1 v)).trans h1
  have h := not_key q1 h
  cases h
theorem runi13004_1 (k : Nat) (K : AExit → St → Option R) : ∀ n v, aloop (aexec (i13004_env k) (i13004_J k) (i13004_L k) ((findLoop 1 (codeOf Try.f101)).getD .skip)) (normSt [(4, .asis), (13, .asis), (14, .asis), (15, .asis), (4096, .asis), (4097, .asis), (4098, .asis), (4099, .asis), (4100, .asis), (4101, .asis), (4102, .asis)]) (normSt [(4096, .asis), (4097, .asis), (4098, .asis), (4099, .asis), (4100, .asis), (4101, .asis), (4102, .asis)]) K n (shi13004_1.enc (uni13004_1 v)) = i13004_l1 (R := R) k n v (fun (x4096, x4097, x4100, x4101, x4102, y0, z2_0, z3_0) => K (.exit 0) (oshi13004_1kx0.enc ((x4096, (x4097, ((), ((), (x4100, (x4101, (x4102, ()))))))), (y0, (((), ()), ((z2_0, ()), ((z3_0, ()), ()))))))) := loop_eq (fun n v => aloop (aexec (i13004_env k) (i13004_J k) (i13004_L k) ((findLoop 1 (codeOf Try.f101)).getD .skip)) (normSt [(4, .asis), (13, .asis), (14, .asis), (15, .asis), (4096, .asis), (4097, .asis), (4098, .asis), (4099, .asis), (4100, .asis), (4101, .asis), (4102, .asis)]) (normSt [(4096, .asis), (4097, .asis), (4098, .asis), (4099, .asis), (4100, .asis), (4101, .asis), (4102, .asis)]) K n (shi13004_1.enc (uni13004_1 v))) (fun n v => i13004_l1 (R := R) k n v (fun (x4096, x4097, x4100, x4101, x4102, y0, z2_0, z3_0) => K (.exit 0) (oshi13004_1kx0.enc ((x4096, (x4097, ((), ((), (x4100, (x4101, (x4102, ()))))))), (y0, (((), ()), ((z2_0, ()), ((z3_0, ()), ())))))))) (fun X v => i13004_s1 (R := R) k X (fun (x4096, x4097, x4100, x4101, x4102, y0, z2_0, z3_0) => K (.exit 0) (oshi13004_1kx0.enc ((x4096, (x4097, ((), ((), (x4100, (x4101, (x4102, ()))))))), (y0, (((), ()), ((z2_0, ()), ((z3_0, ()), ()))))))) v) (fun _ => rfl) (fun n v => stepi13004_1 k n K v) (fun n v => rfl)
theorem i13004_loops (k : Nat) : LoopsOk (i13004_env k) (i13004_J k) (i13004_L k) (codeOf Try.f101) := by
  intro c an hc han s K r h
  unfold i13004_L at h
  by_cases q1 : firstRegion c = 1
  · have h1 := key_eq q1 h
    rw [q1] at hc han
    have e2 : an = ⟨[(4, .asis), (13, .asis), (14, .asis), (15, .asis), (4096, .asis), (4097, .asis), (4098, .asis), (4099, .asis), (4100, .asis), (4101, .asis), (4102, .asis)], [(4096, .asis), (4097, .asis), (4098, .asis), (4099, .asis), (4100, .asis), (4101, .asis), (4102, .asis)]⟩ := (Option.some.inj (show some _ = some an from han)).symm
    have e1 : c = (findLoop 1 (codeOf Try.f101)).getD .skip := by rw [hc]; rfl
    cases hd : shi13004_1.dec s with
    | none => rw [hd] at h1; cases h1
    | some v =>
      rw [hd] at h1
      refine ⟨k, ?_⟩
      rw [e1, e2, Shape.dec_enc _ _ _ hd]
      exact (runi13004_1 k K k (fli13004_1 v)).trans h1
  have h := not_key q1 h
  cases h
theorem runi15004_1 (k : Nat) (K : AExit → St → Option R) : ∀ n v, aloop (aexec (i15004_env k) (i15004_J k) (i15004_L k) ((findLoop 1 (codeOf Try.f101)).getD .skip)) (normSt [(4, .asis), (13, .asis), (14, .asis), (15, .asis), (4096, .asis), (4097, .asis), (4098, .asis), (4099, .asis), (4100, .asis), (4101, .asis), (4102, .asis)]) (normSt [(4096, .asis), (4097, .asis), (4098, .asis), (4099, .asis), (4100, .asis), (4101, .asis), (4102, .asis)]) K n (shi15004_1.enc (uni15004_1 v)) = i15004_l1 (R := R) k n v (fun (x4096, x4097, x4100, x4101, x4102, y0, z2_0, z3_0) => K (.exit 0) (oshi15004_1kx0.enc ((x4096, (x4097, ((), ((), (x4100, (x4101, (x4102, ()))))))), (y0, (((), ()), ((z2_0, ()), ((z3_0, ()), ()))))))) := loop_eq (fun n v => aloop (aexec (i15004_env k) (i15004_J k) (i15004_L k) ((findLoop 1 (codeOf Try.f101)).getD .skip)) (normSt [(4, .asis), (13, .asis), (14, .asis), (15, .asis), (4096, .asis), (4097, .asis), (4098, .asis), (4099, .asis), (4100, .asis), (4101, .asis), (4102, .asis)]) (normSt [(4096, .asis), (4097, .asis), (4098, .asis), (4099, .asis), (4100, .asis), (4101, .asis), (4102, .asis)]) K n (shi15004_1.enc (uni15004_1 v))) (fun n v => i15004_l1 (R := R) k n v (fun (x4096, x4097, x4100, x4101, x4102, y0, z2_0, z3_0) => K (.exit 0) (oshi15004_1kx0.enc ((x4096, (x4097, ((), ((), (x4100, (x4101, (x4102, ()))))))), (y0, (((), ()), ((z2_0, ()), ((z3_0, ()), ())))))))) (fun X v => i15004_s1 (R := R) k X (fun (x4096, x4097, x4100, x4101, x4102, y0, z2_0, z3_0) => K (.exit 0) (oshi15004_1kx0.enc ((x4096, (x4097, ((), ((), (x4100, (x4101, (x4102, ()))))))), (y0, (((), ()), ((z2_0, ()), ((z3_0, ()), ()))))))) v) (fun _ => rfl) (fun n v => stepi15004_1 k n K v) (fun n v => rfl)
theorem i15004_loops (k : Nat) : LoopsOk (i15004_env k) (i15004_J k) (i15004_L k) (codeOf Try.f101) := by
  intro c an hc han s K r h
  unfold i15004_L at h
  by_cases q1 : firstRegion c = 1
  · have h1 := key_eq q1 h
    rw [q1] at hc han
    have e2 : an = ⟨[(4, .asis), (13, .asis), (14, .asis), (15, .asis), (4096, .asis), (4097, .asis), (4098, .asis), (4099, .asis), (4100, .asis), (4101, .asis), (4102, .asis)], [(4096, .asis), (4097, .asis), (4098, .asis), (4099, .asis), (4100, .asis), (4101, .asis), (4102, .asis)]⟩ := (Option.some.inj (show some _ = some an from han)).symm
    have e1 : c = (findLoop 1 (codeOf Try.f101)).getD .skip := by rw [hc]; rfl
    cases hd : shi15004_1.dec s with
    | none => rw [hd] at h1; cases h1
    | some v =>
      rw [hd] at h1
      refine ⟨k, ?_⟩
      rw [e1, e2, Shape.dec_enc _ _ _ hd]
      exact (runi15004_1 k K k (fli15004_1 v)).trans h1
  have h := not_key q1 h
  cases h
theorem runi8005_1 (k : Nat) (K : AExit → St → Option R) : ∀ n v, aloop (aexec (i8005_env k) (i8005_J k) (i8005_L k) ((findLoop 1 (codeOf Try.f101)).getD .skip)) (normSt [(4, .asis), (13, .asis), (14, .asis), (15, .asis), (4096, .asis), (4097, .asis), (4098, .asis), (4099, .asis), (4100, .asis), (4101, .asis), (4102, .asis)]) (normSt [(4096, .asis), (4097, .asis), (4098, .asis), (4099, .asis), (4100, .asis), (4101, .asis), (4102, .asis)]) K n (shi8005_1.enc (uni8005_1 v)) = i8005_l1 (R := R) k n v (fun (x4096, x4097, x4100, x4101, x4102, y0, z2_0, z3_0) => K (.exit 0) (oshi8005_1kx0.enc ((x4096, (x4097, ((), ((), (x4100, (x4101, (x4102, ()))))))), (y0, (((), ()), ((z2_0, ()), ((z3_0, ()), ()))))))) := loop_eq (fun n v => aloop (aexec (i8005_env k) (i8005_J k) (i8005_L k) ((findLoop 1 (codeOf Try.f101)).getD .skip)) (normSt [(4, .asis), (13, .asis), (14, .asis), (15, .asis), (4096, .asis), (4097, .asis), (4098, .asis), (4099, .asis), (4100, .asis), (4101, .asis), (4102, .asis)]) (normSt [(4096, .asis), (4097, .asis), (4098, .asis), (4099, .asis), (4100, .asis), (4101, .asis), (4102, .asis)]) K n (shi8005_1.enc (uni8005_1 v))) (fun n v => i8005_l1 (R := R) k n v (fun (x4096, x4097, x4100, x4101, x4102, y0, z2_0, z3_0) => K (.exit 0) (oshi8005_1kx0.enc ((x4096, (x4097, ((), ((), (x4100, (x4101, (x4102, ()))))))), (y0, (((), ()), ((z2_0, ()), ((z3_0, ()), ())))))))) (fun X v => i8005_s1 (R := R) k X (fun (x4096, x4097, x4100, x4101, x4102, y0, z2_0, z3_0) => K (.exit 0) (oshi8005_1kx0.enc ((x4096, (x4097, ((), ((), (x4100, (x4101, (x4102, ()))))))), (y0, (((), ()), ((z2_0, ()), ((z3_0, ()), ()))))))) v) (fun _ => rfl) (fun n v => stepi8005_1 k n K v) (fun n v => rfl)
theorem i8005_loops (k : Nat) : LoopsOk (i8005_env k) (i8005_J k) (i8005_L k) (codeOf Try.f101) := by
  intro c an hc han s K r h
  unfold i8005_L at h
  by_cases q1 : firstRegion c = 1
  · have h1 := key_eq q1 h
    rw [q1] at hc han
    have e2 : an = ⟨[(4, .asis), (13, .asis), (14, .asis), (15, .asis), (4096, .asis), (4097, .asis), (4098, .asis), (4099, .asis), (4100, .asis), (4101, .asis), (4102, .asis)], [(4096, .asis), (4097, .asis), (4098, .asis), (4099, .asis), (4100, .asis), (4101, .asis), (4102, .asis)]⟩ := (Option.some.inj (show some _ = some an from han)).symm
    have e1 : c = (findLoop 1 (codeOf Try.f101)).getD .skip := by rw [hc]; rfl
    cases hd : shi8005_1.dec s with
    | none => rw [hd] at h1; cases h1
    | some v =>
      rw [hd] at h1
      refine ⟨k, ?_⟩
      rw [e1, e2, Shape.dec_enc _ _ _ hd]
      exact (runi8005_1 k K k (fli8005_1 v)).trans h1
  have h := not_key q1 h
  cases h
theorem i8005_fit (k : Nat) : codeFit (i8005_env k) (codeOf Try.f101) = true := by kernel_rfl
theorem i8005_lps : (loopsIn (codeOf Try.f101)).map (fun d => findLoop (firstRegion d) (codeOf Try.f101)) = (loopsIn (codeOf Try.f101)).map some := by kernel_rfl
theorem i8005_hf : Try.prog.funcs[101]? = some Try.f101 := by kernel_rfl
theorem i8005_hb : Try.f101.body = some (codeOf Try.f101) := by kernel_rfl
theorem i8005_hn : (Try.f101.name == "runtime.NumGoroutine") = false := by kernel_rfl
theorem i8005_hJ (k : Nat) : ∀ C : Ctx, C.P = Try.prog → ∀ r, InlOk C (i8005_J k) r := fun C hC r => noInl_ok
theorem i8005_one (k : Nat) (C : Ctx) (hC : C.P = Try.prog) (r : R) : OneOk C 101 (inst (i8005_env k) (i8005_J k) (i8005_L k) Try.f101 [1, 2, 10, 11, 21, 22, 23]) r := inst_ok hC (by kernel_rfl) (by kernel_rfl) (by kernel_rfl) (by kernel_rfl) (tbl_cons (impl_splitChips.sound k) (tbl_cons (impl_highWinners.sound k) (tbl_cons (impl_lowWinners.sound k) tbl_nil))) i8005_hf i8005_hb i8005_hn (i8005_fit k) (loops_all i8005_lps) (fun C hC => i8005_hJ k C hC r) (i8005_loops k)
theorem i15004_fit (k : Nat) : codeFit (i15004_env k) (codeOf Try.f101) = true := by kernel_rfl
theorem i15004_lps : (loopsIn (codeOf Try.f101)).map (fun d => findLoop (firstRegion d) (codeOf Try.f101)) = (loopsIn (codeOf Try.f101)).map some := by kernel_rfl
theorem i15004_hf : Try.prog.funcs[101]? = some Try.f101 := by kernel_rfl
theorem i15004_hb : Try.f101.body = some (codeOf Try.f101) := by kernel_rfl
theorem i15004_hn : (Try.f101.name == "runtime.NumGoroutine") = false := by kernel_rfl
theorem i15004_hJ (k : Nat) : ∀ C : Ctx, C.P = Try.prog → ∀ r, InlOk C (i15004_J k) r := fun C hC r => noInl_ok
theorem i15004_one (k : Nat) (C : Ctx) (hC : C.P = Try.prog) (r : R) : OneOk C 101 (inst (i15004_env k) (i15004_J k) (i15004_L k) Try.f101 [1, 2, 10, 11, 21, 22, 23]) r := inst_ok hC (by kernel_rfl) (by kernel_rfl) (by kernel_rfl) (by kernel_rfl) (tbl_cons (impl_splitChips.sound k) (tbl_cons (impl_highWinners.sound k) (tbl_cons (impl_lowWinners.sound k) tbl_nil))) i15004_hf i15004_hb i15004_hn (i15004_fit k) (loops_all i15004_lps) (fun C hC => i15004_hJ k C hC r) (i15004_loops k)
theorem i13004_fit (k : Nat) : codeFit (i13004_env k) (codeOf Try.f101) = true := by kernel_rfl
theorem i13004_lps : (loopsIn (codeOf Try.f101)).map (fun d => findLoop (firstRegion d) (codeOf Try.f101)) = (loopsIn (codeOf Try.f101)).map some := by kernel_rfl
theorem i13004_hf : Try.prog.funcs[101]? = some Try.f101 := by kernel_rfl
theorem i13004_hb : Try.f101.body = some (codeOf Try.f101) := by kernel_rfl
theorem i13004_hn : (Try.f101.name == "runtime.NumGoroutine") = false := by kernel_rfl
theorem i13004_hJ (k : Nat) : ∀ C : Ctx, C.P = Try.prog → ∀ r, InlOk C (i13004_J k) r := fun C hC r => noInl_ok
theorem i13004_one (k : Nat) (C : Ctx) (hC : C.P = Try.prog) (r : R) : OneOk C 101 (inst (i13004_env k) (i13004_J k) (i13004_L k) Try.f101 [1, 2, 10, 11, 21, 22, 23]) r := inst_ok hC (by kernel_rfl) (by kernel_rfl) (by kernel_rfl) (by kernel_rfl) (tbl_cons (impl_splitChips.sound k) (tbl_cons (impl_highWinners.sound k) (tbl_cons (impl_lowWinners.sound k) tbl_nil))) i13004_hf i13004_hb i13004_hn (i13004_fit k) (loops_all i13004_lps) (fun C hC => i13004_hJ k C hC r) (i13004_loops k)
theorem i11008_fit (k : Nat) : codeFit (i11008_env k) (codeOf Try.f101) = true := by kernel_rfl
theorem i11008_lps : (loopsIn (codeOf Try.f101)).map (fun d => findLoop (firstRegion d) (codeOf Try.f101)) = (loopsIn (codeOf Try.f101)).map some := by kernel_rfl
theorem i11008_hf : Try.prog.funcs[101]? = some Try.f101 := by kernel_rfl
theorem i11008_hb : Try.f101.body = some (codeOf Try.f101) := by kernel_rfl
theorem i11008_hn : (Try.f101.name == "runtime.NumGoroutine") = false := by kernel_rfl
theorem i11008_hJ (k : Nat) : ∀ C : Ctx, C.P = Try.prog → ∀ r, InlOk C (i11008_J k) r := fun C hC r => noInl_ok
theorem i11008_one (k : Nat) (C : Ctx) (hC : C.P = Try.prog) (r : R) : OneOk C 101 (inst (i11008_env k) (i11008_J k) (i11008_L k) Try.f101 [1, 2, 10, 11, 21, 22, 23]) r := inst_ok hC (by kernel_rfl) (by kernel_rfl) (by kernel_rfl) (by kernel_rfl) (tbl_cons (impl_splitChips.sound k) (tbl_cons (impl_highWinners.sound k) (tbl_cons (impl_lowWinners.sound k) tbl_nil))) i11008_hf i11008_hb i11008_hn (i11008_fit k) (loops_all i11008_lps) (fun C hC => i11008_hJ k C hC r) (i11008_loops k)
theorem i10005_fit (k : Nat) : codeFit (i10005_env k) (codeOf Try.f101) = true := by kernel_rfl
theorem i10005_lps : (loopsIn (codeOf Try.f101)).map (fun d => findLoop (firstRegion d) (codeOf Try.f101)) = (loopsIn (codeOf Try.f101)).map some := by kernel_rfl
theorem i10005_hf : Try.prog.funcs[101]? = some Try.f101 := by kernel_rfl
theorem i10005_hb : Try.f101.body = some (codeOf Try.f101) := by kernel_rfl
theorem i10005_hn : (Try.f101.name == "runtime.NumGoroutine") = false := by kernel_rfl
theorem i10005_hJ (k : Nat) : ∀ C : Ctx, C.P = Try.prog → ∀ r, InlOk C (i10005_J k) r := fun C hC r => noInl_ok
theorem i10005_one (k : Nat) (C : Ctx) (hC : C.P = Try.prog) (r : R) : OneOk C 101 (inst (i10005_env k) (i10005_J k) (i10005_L k) Try.f101 [1, 2, 10, 11, 13, 14, 21, 22, 23]) r := inst_ok hC (by kernel_rfl) (by kernel_rfl) (by kernel_rfl) (by kernel_rfl) (tbl_cons (impl_splitChips.sound k) (tbl_cons (impl_highWinners.sound k) (tbl_cons (impl_lowWinners.sound k) tbl_nil))) i10005_hf i10005_hb i10005_hn (i10005_fit k) (loops_all i10005_lps) (fun C hC => i10005_hJ k C hC r) (i10005_loops k)
theorem fit (k : Nat) : codeFit (env k) (codeOf Try.f77) = true := by kernel_rfl
theorem lps : (loopsIn (codeOf Try.f77)).map (fun d => findLoop (firstRegion d) (codeOf Try.f77)) = (loopsIn (codeOf Try.f77)).map some := by kernel_rfl
theorem hf : Try.prog.funcs[77]? = some Try.f77 := by kernel_rfl
theorem hb : Try.f77.body = some (codeOf Try.f77) := by kernel_rfl
theorem hn : (Try.f77.name == "runtime.NumGoroutine") = false := by kernel_rfl
theorem hJ (k : Nat) : ∀ C : Ctx, C.P = Try.prog → ∀ r, InlOk C (J k) r := fun C hC r => (inlCons_ok (i10005_one k C hC r) (inlCons_ok (i11008_one k C hC r) (inlCons_ok (i13004_one k C hC r) (inlCons_ok (i15004_one k C hC r) (inlCons_ok (i8005_one k C hC r) noInl_ok)))))
theorem sound (k : Nat) : Sound Try.prog 77 (entry k) := func_sound (E := env k) (by kernel_rfl) (by kernel_rfl) (by kernel_rfl) (by kernel_rfl) (tbl_cons (impl_splitChips.sound k) (tbl_cons (impl_highWinners.sound k) (tbl_cons (impl_lowWinners.sound k) tbl_nil))) hf hb hn (fit k) (loops_all lps) (hJ k) (loops k) (eq k)
end impl_awarded

namespace impl_allWithin
def entry (k : Nat) : Entry := ⟨[.ro (.sl 2 (.int .i64)), .ro (.int .i64), .ro (.int .i64)], [.own .bool], fun (a0, (a1, (a2, _))) => f k a0 a1 a2⟩
def tbl (k : Nat) : List (Nat × Option Entry) := [(59, some (impl_within.entry k))]
abbrev R := Res [.own .bool] × Outs [.ro (.sl 2 (.int .i64)), .ro (.int .i64), .ro (.int .i64)]
def env (k : Nat) : Env := ⟨Try.prog, 21, AM.look none (tbl k), AM.look none [(2, some ⟨[(1, .asis), (2, .asis), (9, .asis), (10, .asis), (11, .asis)], [(6, .asis)]⟩)]⟩
def sh2 : Shape := ⟨[(1, .val (.int .i64)), (2, .val (.int .i64)), (9, .val (.sl 2 (.int .i64))), (10, .val (.int .i64)), (11, .val (.int .i64))], [], 0, []⟩
def osh2kx0 : Shape := ⟨[(6, .undef)], [], 0, []⟩
def osh2kr : Shape := ⟨[(6, .val .bool)], [], 0, []⟩
def un2 : Int × Int × (List Int) × Int × Int → sh2.V := fun (x1, x2, x9, x10, x11) => ((x1, (x2, (x9, (x10, (x11, ()))))), ())
def fl2 : sh2.V → Int × Int × (List Int) × Int × Int := fun ((x1, (x2, (x9, (x10, (x11, _))))), _) => (x1, x2, x9, x10, x11)
def L (k : Nat) (q : Nat) (s : St) (K : AExit → St → Option R) : Option R := bif Nat.beq q 2 then (match sh2.dec s with | some v => l2 (R := R) k k (fl2 v) (fun (_ : Unit) => K (.exit 0) (osh2kx0.enc (((), ()), ()))) (fun x6 => K .ret (osh2kr.enc ((x6, ()), ()))) | none => none) else (none)
def J (k : Nat) : Inl R := noInl
theorem step2 (k n : Nat) (K : AExit → St → Option R) : ∀ v, aloop (aexec (env k) (J k) (L k) ((findLoop 2 (codeOf Try.f87)).getD .skip)) (normSt [(1, .asis), (2, .asis), (9, .asis), (10, .asis), (11, .asis)]) (normSt [(6, .asis)]) K (n + 1) (sh2.enc (un2 v)) = s2 (R := R) k (fun w => aloop (aexec (env k) (J k) (L k) ((findLoop 2 (codeOf Try.f87)).getD .skip)) (normSt [(1, .asis), (2, .asis), (9, .asis), (10, .asis), (11, .asis)]) (normSt [(6, .asis)]) K n (sh2.enc (un2 w))) (fun (_ : Unit) => K (.exit 0) (osh2kx0.enc (((), ()), ()))) (fun x6 => K .ret (osh2kr.enc ((x6, ()), ()))) v := by intro v; kernel_rfl
theorem eq (k : Nat) : ∀ a, aexec (env k) (J k) (L k) (codeOf Try.f87) (begSt [.ro (.sl 2 (.int .i64)), .ro (.int .i64), .ro (.int .i64)] a) (finK (env k) Try.f87 [.ro (.sl 2 (.int .i64)), .ro (.int .i64), .ro (.int .i64)] [.own .bool]) = (entry k).fn a := by intro a; kernel_rfl
theorem run2 (k : Nat) (K : AExit → St → Option R) : ∀ n v, aloop (aexec (env k) (J k) (L k) ((findLoop 2 (codeOf Try.f87)).getD .skip)) (normSt [(1, .asis), (2, .asis), (9, .asis), (10, .asis), (11, .asis)]) (normSt [(6, .asis)]) K n (sh2.enc (un2 v)) = l2 (R := R) k n v (fun (_ : Unit) => K (.exit 0) (osh2kx0.enc (((), ()), ()))) (fun x6 => K .ret (osh2kr.enc ((x6, ()), ()))) := loop_eq (fun n v => aloop (aexec (env k) (J k) (L k) ((findLoop 2 (codeOf Try.f87)).getD .skip)) (normSt [(1, .asis), (2, .asis), (9, .asis), (10, .asis), (11, .asis)]) (normSt [(6, .asis)]) K n (sh2.enc (un2 v))) (fun n v => l2 (R := R) k n v (fun (_ : Unit) => K (.exit 0) (osh2kx0.enc (((), ()), ()))) (fun x6 => K .ret (osh2kr.enc ((x6, ()), ())))) (fun X v => s2 (R := R) k X (fun (_ : Unit) => K (.exit 0) (osh2kx0.enc (((), ()), ()))) (fun x6 => K .ret (osh2kr.enc ((x6, ()), ()))) v) (fun _ => rfl) (fun n v => step2 k n K v) (fun n v => rfl)
theorem loops (k : Nat) : LoopsOk (env k) (J k) (L k) (codeOf Try.f87) := by
  intro c an hc han s K r h
  unfold L at h
  by_cases q2 : firstRegion c = 2
  · have h1 := key_eq q2 h
    rw [q2] at hc han
    have e2 : an = ⟨[(1, .asis), (2, .asis), (9, .asis), (10, .asis), (11, .asis)], [(6, .asis)]⟩ := (Option.some.inj (show some _ = some an from han)).symm
    have e1 : c = (findLoop 2 (codeOf Try.f87)).getD .skip := by rw [hc]; rfl
    cases hd : sh2.dec s with
    | none => rw [hd] at h1; cases h1
    | some v =>
      rw [hd] at h1
      refine ⟨k, ?_⟩
      rw [e1, e2, Shape.dec_enc _ _ _ hd]
      exact (run2 k K k (fl2 v)).trans h1
  have h := not_key q2 h
  cases h
theorem fit (k : Nat) : codeFit (env k) (codeOf Try.f87) = true := by kernel_rfl
theorem lps : (loopsIn (codeOf Try.f87)).map (fun d => findLoop (firstRegion d) (codeOf Try.f87)) = (loopsIn (codeOf Try.f87)).map some := by kernel_rfl
theorem hf : Try.prog.funcs[87]? = some Try.f87 := by kernel_rfl
theorem hb : Try.f87.body = some (codeOf Try.f87) := by kernel_rfl
theorem hn : (Try.f87.name == "runtime.NumGoroutine") = false := by kernel_rfl
theorem hJ (k : Nat) : ∀ C : Ctx, C.P = Try.prog → ∀ r, InlOk C (J k) r := fun C hC r => noInl_ok
theorem sound (k : Nat) : Sound Try.prog 87 (entry k) := func_sound (E := env k) (by kernel_rfl) (by kernel_rfl) (by kernel_rfl) (by kernel_rfl) (tbl_cons (impl_within.sound k) tbl_nil) hf hb hn (fit k) (loops_all lps) (hJ k) (loops k) (eq k)
end impl_allWithin

namespace impl_ArePayments
def entry (k : Nat) : Entry := ⟨[.ro (.sl 2 (.int .i64)), .ro (.sl 4 .bool)], [.own .bool], fun (a0, (a1, _)) => f k a0 a1⟩
def tbl (k : Nat) : List (Nat × Option Entry) := [(59, some (impl_within.entry k)), (87, some (impl_allWithin.entry k))]
abbrev R := Res [.own .bool] × Outs [.ro (.sl 2 (.int .i64)), .ro (.sl 4 .bool)]
def env (k : Nat) : Env := ⟨Try.prog, 40, AM.look none (tbl k), AM.look none [(4, some ⟨[(1, .asis), (23, .asis), (24, .asis), (25, .asis)], [(4, .asis)]⟩)]⟩
def sh4 : Shape := ⟨[(1, .val (.sl 4 .bool)), (23, .val (.sl 2 (.int .i64))), (24, .val (.int .i64)), (25, .val (.int .i64))], [], 0, []⟩
def osh4kx0 : Shape := ⟨[(4, .undef)], [], 0, []⟩
def osh4kr : Shape := ⟨[(4, .val .bool)], [], 0, []⟩
def un4 : (List Bool) × (List Int) × Int × Int → sh4.V := fun (x1, x23, x24, x25) => ((x1, (x23, (x24, (x25, ())))), ())
def fl4 : sh4.V → (List Bool) × (List Int) × Int × Int := fun ((x1, (x23, (x24, (x25, _)))), _) => (x1, x23, x24, x25)
def L (k : Nat) (q : Nat) (s : St) (K : AExit → St → Option R) : Option R := bif Nat.beq q 4 then (match sh4.dec s with | some v => l4 (R := R) k k (fl4 v) (fun (_ : Unit) => K (.exit 0) (osh4kx0.enc (((), ()), ()))) (fun x4 => K .ret (osh4kr.enc ((x4, ()), ()))) | none => none) else (none)
def J (k : Nat) : Inl R := noInl
theorem step4 (k n : Nat) (K : AExit → St → Option R) : ∀ v, aloop (aexec (env k) (J k) (L k) ((findLoop 4 (codeOf Try.f81)).getD .skip)) (normSt [(1, .asis), (23, .asis), (24, .asis), (25, .asis)]) (normSt [(4, .asis)]) K (n + 1) (sh4.enc (un4 v)) = s4 (R := R) k (fun w => aloop (aexec (env k) (J k) (L k) ((findLoop 4 (codeOf Try.f81)).getD .skip)) (normSt [(1, .asis), (23, .asis), (24, .asis), (25, .asis)]) (normSt [(4, .asis)]) K n (sh4.enc (un4 w))) (fun (_ : Unit) => K (.exit 0) (osh4kx0.enc (((), ()), ()))) (fun x4 => K .ret (osh4kr.enc ((x4, ()), ()))) v := by intro v; kernel_rfl
theorem eq (k : Nat) : ∀ a, aexec (env k) (J k) (L k) (codeOf Try.f81) (begSt [.ro (.sl 2 (.int .i64)), .ro (.sl 4 .bool)] a) (finK (env k) Try.f81 [.ro (.sl 2 (.int .i64)), .ro (.sl 4 .bool)] [.own .bool]) = (entry k).fn a := by intro a; kernel_rfl
theorem run4 (k : Nat) (K : AExit → St → Option R) : ∀ n v, aloop (aexec (env k) (J k) (L k) ((findLoop 4 (codeOf Try.f81)).getD .skip)) (normSt [(1, .asis), (23, .asis), (24, .asis), (25, .asis)]) (normSt [(4, .asis)]) K n (sh4.enc (un4 v)) = l4 (R := R) k n v (fun (_ : Unit) => K (.exit 0) (osh4kx0.enc (((), ()), ()))) (fun x4 => K .ret (osh4kr.enc ((x4, ()), ()))) := loop_eq (fun n v => aloop (aexec (env k) (J k) (L k) ((findLoop 4 (codeOf Try.f81)).getD .skip)) (normSt [(1, .asis), (23, .asis), (24, .asis), (25, .asis)]) (normSt [(4, .asis)]) K n (sh4.enc (un4 v))) (fun n v => l4 (R := R) k n v (fun (_ : Unit) => K (.exit 0) (osh4kx0.enc (((), ()), ()))) (fun x4 => K .ret (osh4kr.enc ((x4, ()), ())))) (fun X v => s4 (R := R) k X (fun (_ : Unit) => K (.exit 0) (osh4kx0.enc (((), ()), ()))) (fun x4 => K .ret (osh4kr.enc ((x4, ()), ()))) v) (fun _ => rfl) (fun n v => step4 k n K v) (fun n v => rfl)
theorem loops (k : Nat) : LoopsOk (env k) (J k) (L k) (codeOf Try.f81) := by
  intro c an hc han s K r h
  unfold L at h
  by_cases q4 : firstRegion c = 4
  · have h1 := key_eq q4 h
    rw [q4] at hc han
    have e2 : an = ⟨[(1, .asis), (23, .asis), (24, .asis), (25, .asis)], [(4, .asis)]⟩ := (Option.some.inj (show some _ = some an from han)).symm
    have e1 : c = (findLoop 4 (codeOf Try.f81)).getD .skip := by rw [hc]; rfl
    cases hd : sh4.dec s with
    | none => rw [hd] at h1; cases h1
    | some v =>
      rw [hd] at h1
      refine ⟨k, ?_⟩
      rw [e1, e2, Shape.dec_enc _ _ _ hd]
      exact (run4 k K k (fl4 v)).trans h1
  have h := not_key q4 h
  cases h
theorem fit (k : Nat) : codeFit (env k) (codeOf Try.f81) = true := by kernel_rfl
theorem lps : (loopsIn (codeOf Try.f81)).map (fun d => findLoop (firstRegion d) (codeOf Try.f81)) = (loopsIn (codeOf Try.f81)).map some := by kernel_rfl
theorem hf : Try.prog.funcs[81]? = some Try.f81 := by kernel_rfl
theorem hb : Try.f81.body = some (codeOf Try.f81) := by kernel_rfl
theorem hn : (Try.f81.name == "runtime.NumGoroutine") = false := by kernel_rfl
theorem hJ (k : Nat) : ∀ C : Ctx, C.P = Try.prog → ∀ r, InlOk C (J k) r := fun C hC r => noInl_ok
theorem sound (k : Nat) : Sound Try.prog 81 (entry k) := func_sound (E := env k) (by kernel_rfl) (by kernel_rfl) (by kernel_rfl) (by kernel_rfl) (tbl_cons (impl_within.sound k) (tbl_cons (impl_allWithin.sound k) tbl_nil)) hf hb hn (fit k) (loops_all lps) (hJ k) (loops k) (eq k)
end impl_ArePayments

namespace slices_Max_int64_int64
def entry (k : Nat) : Entry := ⟨[.ro (.sl 2 (.int .i64))], [.own (.int .i64)], fun (a0, _) => f k a0⟩
def tbl (k : Nat) : List (Nat × Option Entry) := []
abbrev R := Res [.own (.int .i64)] × Outs [.ro (.sl 2 (.int .i64))]
def env (k : Nat) : Env := ⟨Try.prog, 25, AM.look none (tbl k), AM.look none [(5, some ⟨[(0, .asis), (3, .asis), (4, .asis)], [(3, .asis)]⟩)]⟩
def sh5 : Shape := ⟨[(0, .val (.sl 2 (.int .i64))), (3, .val (.int .i64)), (4, .val (.int .i64))], [], 0, []⟩
def osh5kx0 : Shape := ⟨[(3, .val (.int .i64))], [], 0, []⟩
def un5 : (List Int) × Int × Int → sh5.V := fun (x0, x3, x4) => ((x0, (x3, (x4, ()))), ())
def fl5 : sh5.V → (List Int) × Int × Int := fun ((x0, (x3, (x4, _))), _) => (x0, x3, x4)
def L (k : Nat) (q : Nat) (s : St) (K : AExit → St → Option R) : Option R := bif Nat.beq q 5 then (match sh5.dec s with | some v => l5 (R := R) k k (fl5 v) (fun x3 => K (.exit 0) (osh5kx0.enc ((x3, ()), ()))) | none => none) else (none)
def J (k : Nat) : Inl R := noInl
theorem step5 (k n : Nat) (K : AExit → St → Option R) : ∀ v, aloop (aexec (env k) (J k) (L k) ((findLoop 5 (codeOf Try.f109)).getD .skip)) (normSt [(0, .asis), (3, .asis), (4, .asis)]) (normSt [(3, .asis)]) K (n + 1) (sh5.enc (un5 v)) = s5 (R := R) k (fun w => aloop (aexec (env k) (J k) (L k) ((findLoop 5 (codeOf Try.f109)).getD .skip)) (normSt [(0, .asis), (3, .asis), (4, .asis)]) (normSt [(3, .asis)]) K n (sh5.enc (un5 w))) (fun x3 => K (.exit 0) (osh5kx0.enc ((x3, ()), ()))) v := by intro v; kernel_rfl
theorem eq (k : Nat) : ∀ a, aexec (env k) (J k) (L k) (codeOf Try.f109) (begSt [.ro (.sl 2 (.int .i64))] a) (finK (env k) Try.f109 [.ro (.sl 2 (.int .i64))] [.own (.int .i64)]) = (entry k).fn a := by intro a; kernel_rfl
theorem run5 (k : Nat) (K : AExit → St → Option R) : ∀ n v, aloop (aexec (env k) (J k) (L k) ((findLoop 5 (codeOf Try.f109)).getD .skip)) (normSt [(0, .asis), (3, .asis), (4, .asis)]) (normSt [(3, .asis)]) K n (sh5.enc (un5 v)) = l5 (R := R) k n v (fun x3 => K (.exit 0) (osh5kx0.enc ((x3, ()), ()))) := loop_eq (fun n v => aloop (aexec (env k) (J k) (L k) ((findLoop 5 (codeOf Try.f109)).getD .skip)) (normSt [(0, .asis), (3, .asis), (4, .asis)]) (normSt [(3, .asis)]) K n (sh5.enc (un5 v))) (fun n v => l5 (R := R) k n v (fun x3 => K (.exit 0) (osh5kx0.enc ((x3, ()), ())))) (fun X v => s5 (R := R) k X (fun x3 => K (.exit 0) (osh5kx0.enc ((x3, ()), ()))) v) (fun _ => rfl) (fun n v => step5 k n K v) (fun n v => rfl)
theorem loops (k : Nat) : LoopsOk (env k) (J k) (L k) (codeOf Try.f109) := by
  intro c an hc han s K r h
  unfold L at h
  by_cases q5 : firstRegion c = 5
  · have h1 := key_eq q5 h
    rw [q5] at hc han
    have e2 : an = ⟨[(0, .asis), (3, .asis), (4, .asis)], [(3, .asis)]⟩ := (Option.some.inj (show some _ = some an from han)).symm
    have e1 : c = (findLoop 5 (codeOf Try.f109)).getD .skip := by rw [hc]; rfl
    cases hd : sh5.dec s with
    | none => rw [hd] at h1; cases h1
    | some v =>
      rw [hd] at h1
      refine ⟨k, ?_⟩
      rw [e1, e2, Shape.dec_enc _ _ _ hd]
      exact (run5 k K k (fl5 v)).trans h1
  have h := not_key q5 h
  cases h
theorem fit (k : Nat) : codeFit (env k) (codeOf Try.f109) = true := by kernel_rfl
theorem lps : (loopsIn (codeOf Try.f109)).map (fun d => findLoop (firstRegion d) (codeOf Try.f109)) = (loopsIn (codeOf Try.f109)).map some := by kernel_rfl
theorem hf : Try.prog.funcs[109]? = some Try.f109 := by kernel_rfl
theorem hb : Try.f109.body = some (codeOf Try.f109) := by kernel_rfl
theorem hn : (Try.f109.name == "runtime.NumGoroutine") = false := by kernel_rfl
theorem hJ (k : Nat) : ∀ C : Ctx, C.P = Try.prog → ∀ r, InlOk C (J k) r := fun C hC r => noInl_ok
theorem sound (k : Nat) : Sound Try.prog 109 (entry k) := func_sound (E := env k) (by kernel_rfl) (by kernel_rfl) (by kernel_rfl) (by kernel_rfl) tbl_nil hf hb hn (fit k) (loops_all lps) (hJ k) (loops k) (eq k)
end slices_Max_int64_int64

namespace impl_uncalledOf
def entry (k : Nat) : Entry := ⟨[.ro (.sl 2 (.int .i64))], [.own (.int .i64), .own (.int .i64)], fun (a0, _) => f k a0⟩
def tbl (k : Nat) : List (Nat × Option Entry) := [(109, some (slices_Max_int64_int64.entry k)), (110, some (slices_Index_int64_int64.entry k))]
abbrev R := Res [.own (.int .i64), .own (.int .i64)] × Outs [.ro (.sl 2 (.int .i64))]
def env (k : Nat) : Env := ⟨Try.prog, 35, AM.look none (tbl k), AM.look none [(5, some ⟨[(4, .asis), (5, .asis), (6, .asis), (14, .asis), (15, .asis), (16, .asis)], [(4, .asis), (5, .asis), (6, .asis)]⟩)]⟩
def sh5 : Shape := ⟨[(4, .val (.int .i64)), (5, .val (.int .i64)), (6, .val (.int .i64)), (14, .val (.sl 2 (.int .i64))), (15, .val (.int .i64)), (16, .val (.int .i64))], [], 0, []⟩
def osh5kx0 : Shape := ⟨[(4, .val (.int .i64)), (5, .val (.int .i64)), (6, .val (.int .i64))], [], 0, []⟩
def un5 : Int × Int × Int × (List Int) × Int × Int → sh5.V := fun (x4, x5, x6, x14, x15, x16) => ((x4, (x5, (x6, (x14, (x15, (x16, ())))))), ())
def fl5 : sh5.V → Int × Int × Int × (List Int) × Int × Int := fun ((x4, (x5, (x6, (x14, (x15, (x16, _)))))), _) => (x4, x5, x6, x14, x15, x16)
def L (k : Nat) (q : Nat) (s : St) (K : AExit → St → Option R) : Option R := bif Nat.beq q 5 then (match sh5.dec s with | some v => l5 (R := R) k k (fl5 v) (fun (x4, x5, x6) => K (.exit 0) (osh5kx0.enc ((x4, (x5, (x6, ()))), ()))) | none => none) else (none)
def J (k : Nat) : Inl R := noInl
theorem step5 (k n : Nat) (K : AExit → St → Option R) : ∀ v, aloop (aexec (env k) (J k) (L k) ((findLoop 5 (codeOf Try.f83)).getD .skip)) (normSt [(4, .asis), (5, .asis), (6, .asis), (14, .asis), (15, .asis), (16, .asis)]) (normSt [(4, .asis), (5, .asis), (6, .asis)]) K (n + 1) (sh5.enc (un5 v)) = s5 (R := R) k (fun w => aloop (aexec (env k) (J k) (L k) ((findLoop 5 (codeOf Try.f83)).getD .skip)) (normSt [(4, .asis), (5, .asis), (6, .asis), (14, .asis), (15, .asis), (16, .asis)]) (normSt [(4, .asis), (5, .asis), (6, .asis)]) K n (sh5.enc (un5 w))) (fun (x4, x5, x6) => K (.exit 0) (osh5kx0.enc ((x4, (x5, (x6, ()))), ()))) v := by intro v; kernel_rfl
theorem eq (k : Nat) : ∀ a, aexec (env k) (J k) (L k) (codeOf Try.f83) (begSt [.ro (.sl 2 (.int .i64))] a) (finK (env k) Try.f83 [.ro (.sl 2 (.int .i64))] [.own (.int .i64), .own (.int .i64)]) = (entry k).fn a := by intro a; kernel_rfl
theorem run5 (k : Nat) (K : AExit → St → Option R) : ∀ n v, aloop (aexec (env k) (J k) (L k) ((findLoop 5 (codeOf Try.f83)).getD .skip)) (normSt [(4, .asis), (5, .asis), (6, .asis), (14, .asis), (15, .asis), (16, .asis)]) (normSt [(4, .asis), (5, .asis), (6, .asis)]) K n (sh5.enc (un5 v)) = l5 (R := R) k n v (fun (x4, x5, x6) => K (.exit 0) (osh5kx0.enc ((x4, (x5, (x6, ()))), ()))) := loop_eq (fun n v => aloop (aexec (env k) (J k) (L k) ((findLoop 5 (codeOf Try.f83)).getD .skip)) (normSt [(4, .asis), (5, .asis), (6, .asis), (14, .asis), (15, .asis), (16, .asis)]) (normSt [(4, .asis), (5, .asis), (6, .asis)]) K n (sh5.enc (un5 v))) (fun n v => l5 (R := R) k n v (fun (x4, x5, x6) => K (.exit 0) (osh5kx0.enc ((x4, (x5, (x6, ()))), ())))) (fun X v => s5 (R := R) k X (fun (x4, x5, x6) => K (.exit 0) (osh5kx0.enc ((x4, (x5, (x6, ()))), ()))) v) (fun _ => rfl) (fun n v => step5 k n K v) (fun n v => rfl)
theorem loops (k : Nat) : LoopsOk (env k) (J k) (L k) (codeOf Try.f83) := by
  intro c an hc han s K r h
  unfold L at h
  by_cases q5 : firstRegion c = 5
  · have h1 := key_eq q5 h
    rw [q5] at hc han
    have e2 : an = ⟨[(4, .asis), (5, .asis), (6, .asis), (14, .asis), (15, .asis), (16, .asis)], [(4, .asis), (5, .asis), (6, .asis)]⟩ := (Option.some.inj (show some _ = some an from han)).symm
    have e1 : c = (findLoop 5 (codeOf Try.f83)).getD .skip := by rw [hc]; rfl
    cases hd : sh5.dec s with
    | none => rw [hd] at h1; cases h1
    | some v =>
      rw [hd] at h1
      refine ⟨k, ?_⟩
      rw [e1, e2, Shape.dec_enc _ _ _ hd]
      exact (run5 k K k (fl5 v)).trans h1
  have h := not_key q5 h
  cases h
theorem fit (k : Nat) : codeFit (env k) (codeOf Try.f83) = true := by kernel_rfl
theorem lps : (loopsIn (codeOf Try.f83)).map (fun d => findLoop (firstRegion d) (codeOf Try.f83)) = (loopsIn (codeOf Try.f83)).map some := by kernel_rfl
theorem hf : Try.prog.funcs[83]? = some Try.f83 := by kernel_rfl
theorem hb : Try.f83.body = some (codeOf Try.f83) := by kernel_rfl
theorem hn : (Try.f83.name == "runtime.NumGoroutine") = false := by kernel_rfl
theorem hJ (k : Nat) : ∀ C : Ctx, C.P = Try.prog → ∀ r, InlOk C (J k) r := fun C hC r => noInl_ok
theorem sound (k : Nat) : Sound Try.prog 83 (entry k) := func_sound (E := env k) (by kernel_rfl) (by kernel_rfl) (by kernel_rfl) (by kernel_rfl) (tbl_cons (slices_Max_int64_int64.sound k) (tbl_cons (slices_Index_int64_int64.sound k) tbl_nil)) hf hb hn (fit k) (loops_all lps) (hJ k) (loops k) (eq k)
end impl_uncalledOf

namespace slices_Clone_int64_int64
def entry (k : Nat) : Entry := ⟨[.ro (.sl 2 (.int .i64))], [.own (.sl 2 (.int .i64))], fun (a0, _) => f k a0⟩
def tbl (k : Nat) : List (Nat × Option Entry) := []
abbrev R := Res [.own (.sl 2 (.int .i64))] × Outs [.ro (.sl 2 (.int .i64))]
def env (k : Nat) : Env := ⟨Try.prog, 8, AM.look none (tbl k), AM.look none []⟩
def L (k : Nat) (q : Nat) (s : St) (K : AExit → St → Option R) : Option R := none
def J (k : Nat) : Inl R := noInl
theorem eq (k : Nat) : ∀ a, aexec (env k) (J k) (L k) (codeOf Try.f89) (begSt [.ro (.sl 2 (.int .i64))] a) (finK (env k) Try.f89 [.ro (.sl 2 (.int .i64))] [.own (.sl 2 (.int .i64))]) = (entry k).fn a := by intro a; kernel_rfl
theorem loops (k : Nat) : LoopsOk (env k) (J k) (L k) (codeOf Try.f89) := by
  intro c an hc han s K r h
  unfold L at h
  cases h
theorem fit (k : Nat) : codeFit (env k) (codeOf Try.f89) = true := by kernel_rfl
theorem lps : (loopsIn (codeOf Try.f89)).map (fun d => findLoop (firstRegion d) (codeOf Try.f89)) = (loopsIn (codeOf Try.f89)).map some := by kernel_rfl
theorem hf : Try.prog.funcs[89]? = some Try.f89 := by kernel_rfl
theorem hb : Try.f89.body = some (codeOf Try.f89) := by kernel_rfl
theorem hn : (Try.f89.name == "runtime.NumGoroutine") = false := by kernel_rfl
theorem hJ (k : Nat) : ∀ C : Ctx, C.P = Try.prog → ∀ r, InlOk C (J k) r := fun C hC r => noInl_ok
theorem sound (k : Nat) : Sound Try.prog 89 (entry k) := func_sound (E := env k) (by kernel_rfl) (by kernel_rfl) (by kernel_rfl) (by kernel_rfl) tbl_nil hf hb hn (fit k) (loops_all lps) (hJ k) (loops k) (eq k)
end slices_Clone_int64_int64

namespace impl_refunded
def entry (k : Nat) : Entry := ⟨[.ro (.sl 2 (.int .i64))], [.own (.sl 2 (.int .i64))], fun (a0, _) => f k a0⟩
def tbl (k : Nat) : List (Nat × Option Entry) := [(83, some (impl_uncalledOf.entry k)), (89, some (slices_Clone_int64_int64.entry k))]
abbrev R := Res [.own (.sl 2 (.int .i64))] × Outs [.ro (.sl 2 (.int .i64))]
def env (k : Nat) : Env := ⟨Try.prog, 21, AM.look none (tbl k), AM.look none []⟩
def L (k : Nat) (q : Nat) (s : St) (K : AExit → St → Option R) : Option R := none
def J (k : Nat) : Inl R := noInl
theorem eq (k : Nat) : ∀ a, aexec (env k) (J k) (L k) (codeOf Try.f105) (begSt [.ro (.sl 2 (.int .i64))] a) (finK (env k) Try.f105 [.ro (.sl 2 (.int .i64))] [.own (.sl 2 (.int .i64))]) = (entry k).fn a := by intro a; kernel_rfl
theorem loops (k : Nat) : LoopsOk (env k) (J k) (L k) (codeOf Try.f105) := by
  intro c an hc han s K r h
  unfold L at h
  cases h
theorem fit (k : Nat) : codeFit (env k) (codeOf Try.f105) = true := by kernel_rfl
theorem lps : (loopsIn (codeOf Try.f105)).map (fun d => findLoop (firstRegion d) (codeOf Try.f105)) = (loopsIn (codeOf Try.f105)).map some := by kernel_rfl
theorem hf : Try.prog.funcs[105]? = some Try.f105 := by kernel_rfl
theorem hb : Try.f105.body = some (codeOf Try.f105) := by kernel_rfl
theorem hn : (Try.f105.name == "runtime.NumGoroutine") = false := by kernel_rfl
theorem hJ (k : Nat) : ∀ C : Ctx, C.P = Try.prog → ∀ r, InlOk C (J k) r := fun C hC r => noInl_ok
theorem sound (k : Nat) : Sound Try.prog 105 (entry k) := func_sound (E := env k) (by kernel_rfl) (by kernel_rfl) (by kernel_rfl) (by kernel_rfl) (tbl_cons (impl_uncalledOf.sound k) (tbl_cons (slices_Clone_int64_int64.sound k) tbl_nil)) hf hb hn (fit k) (loops_all lps) (hJ k) (loops k) (eq k)
end impl_refunded

namespace impl_liveSeats
def entry (k : Nat) : Entry := ⟨[.ro (.sl 4 .bool)], [.own (.sl 2 (.int .i64))], fun (a0, _) => f k a0⟩
def tbl (k : Nat) : List (Nat × Option Entry) := []
abbrev R := Res [.own (.sl 2 (.int .i64))] × Outs [.ro (.sl 4 .bool)]
def env (k : Nat) : Env := ⟨Try.prog, 21, AM.look none (tbl k), AM.look none [(3, some ⟨[(3, .row 2 (.int .i64)), (6, .asis), (7, .asis), (8, .asis)], [(3, .asis)]⟩)]⟩
def sh3 : Shape := ⟨[(3, .ref 0), (6, .val (.sl 4 .bool)), (7, .val (.int .i64)), (8, .val (.int .i64))], [(0, .row 2 (.int .i64))], 1, []⟩
def osh3kx0 : Shape := ⟨[(3, .ref 0)], [(0, .row 2 (.int .i64))], 1, []⟩
def un3 : (List Bool) × Int × Int × (List Int) → sh3.V := fun (x6, x7, x8, y0) => (((), (x6, (x7, (x8, ())))), (y0, ()))
def fl3 : sh3.V → (List Bool) × Int × Int × (List Int) := fun ((_, (x6, (x7, (x8, _)))), (y0, _)) => (x6, x7, x8, y0)
def L (k : Nat) (q : Nat) (s : St) (K : AExit → St → Option R) : Option R := bif Nat.beq q 3 then (match sh3.dec s with | some v => l3 (R := R) k k (fl3 v) (fun y0 => K (.exit 0) (osh3kx0.enc (((), ()), (y0, ())))) | none => none) else (none)
def J (k : Nat) : Inl R := noInl
theorem step3 (k n : Nat) (K : AExit → St → Option R) : ∀ v, aloop (aexec (env k) (J k) (L k) ((findLoop 3 (codeOf Try.f106)).getD .skip)) (normSt [(3, .row 2 (.int .i64)), (6, .asis), (7, .asis), (8, .asis)]) (normSt [(3, .asis)]) K (n + 1) (sh3.enc (un3 v)) = s3 (R := R) k (fun w => aloop (aexec (env k) (J k) (L k) ((findLoop 3 (codeOf Try.f106)).getD .skip)) (normSt [(3, .row 2 (.int .i64)), (6, .asis), (7, .asis), (8, .asis)]) (normSt [(3, .asis)]) K n (sh3.enc (un3 w))) (fun y0 => K (.exit 0) (osh3kx0.enc (((), ()), (y0, ())))) v := by intro v; kernel_rfl
theorem eq (k : Nat) : ∀ a, aexec (env k) (J k) (L k) (codeOf Try.f106) (begSt [.ro (.sl 4 .bool)] a) (finK (env k) Try.f106 [.ro (.sl 4 .bool)] [.own (.sl 2 (.int .i64))]) = (entry k).fn a := by intro a; kernel_rfl
theorem run3 (k : Nat) (K : AExit → St → Option R) : ∀ n v, aloop (aexec (env k) (J k) (L k) ((findLoop 3 (codeOf Try.f106)).getD .skip)) (normSt [(3, .row 2 (.int .i64)), (6, .asis), (7, .asis), (8, .asis)]) (normSt [(3, .asis)]) K n (sh3.enc (un3 v)) = l3 (R := R) k n v (fun y0 => K (.exit 0) (osh3kx0.enc (((), ()), (y0, ())))) := loop_eq (fun n v => aloop (aexec (env k) (J k) (L k) ((findLoop 3 (codeOf Try.f106)).getD .skip)) (normSt [(3, .row 2 (.int .i64)), (6, .asis), (7, .asis), (8, .asis)]) (normSt [(3, .asis)]) K n (sh3.enc (un3 v))) (fun n v => l3 (R := R) k n v (fun y0 => K (.exit 0) (osh3kx0.enc (((), ()), (y0, ()))))) (fun X v => s3 (R := R) k X (fun y0 => K (.exit 0) (osh3kx0.enc (((), ()), (y0, ())))) v) (fun _ => rfl) (fun n v => step3 k n K v) (fun n v => rfl)
theorem loops (k : Nat) : LoopsOk (env k) (J k) (L k) (codeOf Try.f106) := by
  intro c an hc han s K r h
  unfold L at h
  by_cases q3 : firstRegion c = 3
  · have h1 := key_eq q3 h
    rw [q3] at hc han
    have e2 : an = ⟨[(3, .row 2 (.int .i64)), (6, .asis), (7, .asis), (8, .asis)], [(3, .asis)]⟩ := (Option.some.inj (show some _ = some an from han)).symm
    have e1 : c = (findLoop 3 (codeOf Try.f106)).getD .skip := by rw [hc]; rfl
    cases hd : sh3.dec s with
    | none => rw [hd] at h1; cases h1
    | some v =>
      rw [hd] at h1
      refine ⟨k, ?_⟩
      rw [e1, e2, Shape.dec_enc _ _ _ hd]
      exact (run3 k K k (fl3 v)).trans h1
  have h := not_key q3 h
  cases h
theorem fit (k : Nat) : codeFit (env k) (codeOf Try.f106) = true := by kernel_rfl
theorem lps : (loopsIn (codeOf Try.f106)).map (fun d => findLoop (firstRegion d) (codeOf Try.f106)) = (loopsIn (codeOf Try.f106)).map some := by kernel_rfl
theorem hf : Try.prog.funcs[106]? = some Try.f106 := by kernel_rfl
theorem hb : Try.f106.body = some (codeOf Try.f106) := by kernel_rfl
theorem hn : (Try.f106.name == "runtime.NumGoroutine") = false := by kernel_rfl
theorem hJ (k : Nat) : ∀ C : Ctx, C.P = Try.prog → ∀ r, InlOk C (J k) r := fun C hC r => noInl_ok
theorem sound (k : Nat) : Sound Try.prog 106 (entry k) := func_sound (E := env k) (by kernel_rfl) (by kernel_rfl) (by kernel_rfl) (by kernel_rfl) tbl_nil hf hb hn (fit k) (loops_all lps) (hJ k) (loops k) (eq k)
end impl_liveSeats

namespace cmp_isNaN_int64
def entry (k : Nat) : Entry := ⟨[.ro (.int .i64)], [.own .bool], fun (a0, _) => f k a0⟩
def tbl (k : Nat) : List (Nat × Option Entry) := []
abbrev R := Res [.own .bool] × Outs [.ro (.int .i64)]
def env (k : Nat) : Env := ⟨Try.prog, 6, AM.look none (tbl k), AM.look none []⟩
def L (k : Nat) (q : Nat) (s : St) (K : AExit → St → Option R) : Option R := none
def J (k : Nat) : Inl R := noInl
theorem eq (k : Nat) : ∀ a, aexec (env k) (J k) (L k) (codeOf Try.f132) (begSt [.ro (.int .i64)] a) (finK (env k) Try.f132 [.ro (.int .i64)] [.own .bool]) = (entry k).fn a := by intro a; kernel_rfl
theorem loops (k : Nat) : LoopsOk (env k) (J k) (L k) (codeOf Try.f132) := by
  intro c an hc han s K r h
  unfold L at h
  cases h
theorem fit (k : Nat) : codeFit (env k) (codeOf Try.f132) = true := by kernel_rfl
theorem lps : (loopsIn (codeOf Try.f132)).map (fun d => findLoop (firstRegion d) (codeOf Try.f132)) = (loopsIn (codeOf Try.f132)).map some := by kernel_rfl
theorem hf : Try.prog.funcs[132]? = some Try.f132 := by kernel_rfl
theorem hb : Try.f132.body = some (codeOf Try.f132) := by kernel_rfl
theorem hn : (Try.f132.name == "runtime.NumGoroutine") = false := by kernel_rfl
theorem hJ (k : Nat) : ∀ C : Ctx, C.P = Try.prog → ∀ r, InlOk C (J k) r := fun C hC r => noInl_ok
theorem sound (k : Nat) : Sound Try.prog 132 (entry k) := func_sound (E := env k) (by kernel_rfl) (by kernel_rfl) (by kernel_rfl) (by kernel_rfl) tbl_nil hf hb hn (fit k) (loops_all lps) (hJ k) (loops k) (eq k)
end cmp_isNaN_int64

namespace cmp_Less_int64
def entry (k : Nat) : Entry := ⟨[.ro (.int .i64), .ro (.int .i64)], [.own .bool], fun (a0, (a1, _)) => f k a0 a1⟩
def tbl (k : Nat) : List (Nat × Option Entry) := [(132, some (cmp_isNaN_int64.entry k))]
abbrev R := Res [.own .bool] × Outs [.ro (.int .i64), .ro (.int .i64)]
def env (k : Nat) : Env := ⟨Try.prog, 17, AM.look none (tbl k), AM.look none []⟩
def L (k : Nat) (q : Nat) (s : St) (K : AExit → St → Option R) : Option R := none
def J (k : Nat) : Inl R := noInl
theorem eq (k : Nat) : ∀ a, aexec (env k) (J k) (L k) (codeOf Try.f122) (begSt [.ro (.int .i64), .ro (.int .i64)] a) (finK (env k) Try.f122 [.ro (.int .i64), .ro (.int .i64)] [.own .bool]) = (entry k).fn a := by intro a; kernel_rfl
theorem loops (k : Nat) : LoopsOk (env k) (J k) (L k) (codeOf Try.f122) := by
  intro c an hc han s K r h
  unfold L at h
  cases h
theorem fit (k : Nat) : codeFit (env k) (codeOf Try.f122) = true := by kernel_rfl
theorem lps : (loopsIn (codeOf Try.f122)).map (fun d => findLoop (firstRegion d) (codeOf Try.f122)) = (loopsIn (codeOf Try.f122)).map some := by kernel_rfl
theorem hf : Try.prog.funcs[122]? = some Try.f122 := by kernel_rfl
theorem hb : Try.f122.body = some (codeOf Try.f122) := by kernel_rfl
theorem hn : (Try.f122.name == "runtime.NumGoroutine") = false := by kernel_rfl
theorem hJ (k : Nat) : ∀ C : Ctx, C.P = Try.prog → ∀ r, InlOk C (J k) r := fun C hC r => noInl_ok
theorem sound (k : Nat) : Sound Try.prog 122 (entry k) := func_sound (E := env k) (by kernel_rfl) (by kernel_rfl) (by kernel_rfl) (by kernel_rfl) (tbl_cons (cmp_isNaN_int64.sound k) tbl_nil) hf hb hn (fit k) (loops_all lps) (hJ k) (loops k) (eq k)
end cmp_Less_int64

namespace bits_Len64
def entry (k : Nat) : Entry := ⟨[.ro (.int .u64)], [.own (.int .i64)], fun (a0, _) => f k a0⟩
def tbl (k : Nat) : List (Nat × Option Entry) := []
abbrev R := Res [.own (.int .i64)] × Outs [.ro (.int .u64)]
def env (k : Nat) : Env := ⟨Try.prog, 25, AM.look none (tbl k), AM.look none []⟩
def L (k : Nat) (q : Nat) (s : St) (K : AExit → St → Option R) : Option R := none
def J (k : Nat) : Inl R := noInl
theorem eq (k : Nat) : ∀ a, aexec (env k) (J k) (L k) (codeOf Try.f126) (begSt [.ro (.int .u64)] a) (finK (env k) Try.f126 [.ro (.int .u64)] [.own (.int .i64)]) = (entry k).fn a := by intro a; kernel_rfl
theorem loops (k : Nat) : LoopsOk (env k) (J k) (L k) (codeOf Try.f126) := by
  intro c an hc han s K r h
  unfold L at h
  cases h
theorem fit (k : Nat) : codeFit (env k) (codeOf Try.f126) = true := by kernel_rfl
theorem lps : (loopsIn (codeOf Try.f126)).map (fun d => findLoop (firstRegion d) (codeOf Try.f126)) = (loopsIn (codeOf Try.f126)).map some := by kernel_rfl
theorem hf : Try.prog.funcs[126]? = some Try.f126 := by kernel_rfl
theorem hb : Try.f126.body = some (codeOf Try.f126) := by kernel_rfl
theorem hn : (Try.f126.name == "runtime.NumGoroutine") = false := by kernel_rfl
theorem hJ (k : Nat) : ∀ C : Ctx, C.P = Try.prog → ∀ r, InlOk C (J k) r := fun C hC r => noInl_ok
theorem sound (k : Nat) : Sound Try.prog 126 (entry k) := func_sound (E := env k) (by kernel_rfl) (by kernel_rfl) (by kernel_rfl) (by kernel_rfl) tbl_nil hf hb hn (fit k) (loops_all lps) (hJ k) (loops k) (eq k)
end bits_Len64

namespace bits_Len
def entry (k : Nat) : Entry := ⟨[.ro (.int .u64)], [.own (.int .i64)], fun (a0, _) => f k a0⟩
def tbl (k : Nat) : List (Nat × Option Entry) := [(126, some (bits_Len64.entry k))]
abbrev R := Res [.own (.int .i64)] × Outs [.ro (.int .u64)]
def env (k : Nat) : Env := ⟨Try.prog, 8, AM.look none (tbl k), AM.look none []⟩
def L (k : Nat) (q : Nat) (s : St) (K : AExit → St → Option R) : Option R := none
def J (k : Nat) : Inl R := noInl
theorem eq (k : Nat) : ∀ a, aexec (env k) (J k) (L k) (codeOf Try.f114) (begSt [.ro (.int .u64)] a) (finK (env k) Try.f114 [.ro (.int .u64)] [.own (.int .i64)]) = (entry k).fn a := by intro a; kernel_rfl
theorem loops (k : Nat) : LoopsOk (env k) (J k) (L k) (codeOf Try.f114) := by
  intro c an hc han s K r h
  unfold L at h
  cases h
theorem fit (k : Nat) : codeFit (env k) (codeOf Try.f114) = true := by kernel_rfl
theorem lps : (loopsIn (codeOf Try.f114)).map (fun d => findLoop (firstRegion d) (codeOf Try.f114)) = (loopsIn (codeOf Try.f114)).map some := by kernel_rfl
theorem hf : Try.prog.funcs[114]? = some Try.f114 := by kernel_rfl
theorem hb : Try.f114.body = some (codeOf Try.f114) := by kernel_rfl
theorem hn : (Try.f114.name == "runtime.NumGoroutine") = false := by kernel_rfl
theorem hJ (k : Nat) : ∀ C : Ctx, C.P = Try.prog → ∀ r, InlOk C (J k) r := fun C hC r => noInl_ok
theorem sound (k : Nat) : Sound Try.prog 114 (entry k) := func_sound (E := env k) (by kernel_rfl) (by kernel_rfl) (by kernel_rfl) (by kernel_rfl) (tbl_cons (bits_Len64.sound k) tbl_nil) hf hb hn (fit k) (loops_all lps) (hJ k) (loops k) (eq k)
end bits_Len

namespace impl_potsOf
def entry (k : Nat) : Entry := ⟨[.ro (.sl 2 (.int .i64)), .ro (.sl 4 .bool)], [.own (.sl 34 (.pair (.int .i64) (.pair (.sl 2 (.int .i64)) .unit)))], fun (a0, (a1, _)) => f k a0 a1⟩
def tbl (k : Nat) : List (Nat × Option Entry) := [(105, some (impl_refunded.entry k)), (106, some (impl_liveSeats.entry k)), (114, some (bits_Len.entry k)), (122, some (cmp_Less_int64.entry k))]
abbrev R := Res [.own (.sl 34 (.pair (.int .i64) (.pair (.sl 2 (.int .i64)) .unit)))] × Outs [.ro (.sl 2 (.int .i64)), .ro (.sl 4 .bool)]
def env (k : Nat) : Env := ⟨Try.prog, 114, AM.look none (tbl k), AM.look none [(4, some ⟨[(0, .asis), (1, .asis), (5, .row 2 (.int .i64)), (20, .asis), (21, .asis), (22, .asis)], [(0, .asis), (1, .asis), (5, .asis)]⟩), (17, some ⟨[(0, .asis), (1, .asis), (8, .asis), (9, .asis), (11, .asis), (12, (.cel [none, some (2, (.int .i64))])), (42, .asis), (43, .asis), (44, .asis), (48, .asis), (49, .asis), (50, .asis)], [(0, .asis), (1, .asis), (8, .asis), (11, .asis), (12, .asis), (42, .asis), (43, .asis), (44, .asis)]⟩), (13, some ⟨[(0, .asis), (1, .asis), (8, .row 34 (.pair (.int .i64) (.pair (.sl 2 (.int .i64)) .unit))), (9, .asis), (42, .toval 2 (.int .i64)), (43, .asis), (44, .asis)], [(0, .asis), (8, .asis), (9, .asis)]⟩), (28, some ⟨[(8, .asis), (9, .asis), (92, .asis), (93, .asis), (94, .asis)], [(8, .asis)]⟩)]⟩
def sh4 : Shape := ⟨[(0, .ref 0), (1, .val (.sl 4 .bool)), (5, .ref 1), (20, .ref 2), (21, .val (.int .i64)), (22, .val (.int .i64))], [(0, .row 2 (.int .i64)), (1, .row 2 (.int .i64)), (2, .row 2 (.int .i64))], 3, []⟩
def osh4kx0 : Shape := ⟨[(0, .ref 0), (1, .val (.sl 4 .bool)), (5, .ref 1)], [(0, .row 2 (.int .i64)), (1, .row 2 (.int .i64))], 2, []⟩
def un4 : (List Bool) × Int × Int × (List Int) × (List Int) × (List Int) → sh4.V := fun (x1, x21, x22, y0, y1, y2) => (((), (x1, ((), ((), (x21, (x22, ())))))), (y0, (y1, (y2, ()))))
def fl4 : sh4.V → (List Bool) × Int × Int × (List Int) × (List Int) × (List Int) := fun ((_, (x1, (_, (_, (x21, (x22, _)))))), (y0, (y1, (y2, _)))) => (x1, x21, x22, y0, y1, y2)
def sh17 : Shape := ⟨[(0, .ref 0), (1, .val (.sl 4 .bool)), (8, .ref 1), (9, .val (.int .i64)), (11, .val (.int .i64)), (12, .pc 3 0), (42, .val (.sl 2 (.int .i64))), (43, .val (.int .i64)), (44, .val (.int .i64)), (48, .ref 0), (49, .val (.int .i64)), (50, .val (.int .i64))], [(0, .row 2 (.int .i64)), (1, .row 34 (.pair (.int .i64) (.pair (.sl 2 (.int .i64)) .unit))), (2, .row 2 (.int .i64)), (3, .cell [.val (.int .i64), .ref 2])], 4, []⟩
def osh17kx4 : Shape := ⟨[(0, .ref 0), (1, .val (.sl 4 .bool)), (8, .ref 1), (11, .val (.int .i64)), (12, .pc 3 0), (42, .val (.sl 2 (.int .i64))), (43, .val (.int .i64)), (44, .val (.int .i64))], [(0, .row 2 (.int .i64)), (1, .row 34 (.pair (.int .i64) (.pair (.sl 2 (.int .i64)) .unit))), (2, .row 2 (.int .i64)), (3, .cell [.val (.int .i64), .ref 2])], 4, []⟩
def un17 : (List Bool) × Int × Int × (List Int) × Int × Int × Int × Int × (List Int) × (List (Int × ((List Int) × Unit))) × (List Int) × Int → sh17.V := fun (x1, x9, x11, x42, x43, x44, x49, x50, y0, y1, y2, z3_0) => (((), (x1, ((), (x9, (x11, ((), (x42, (x43, (x44, ((), (x49, (x50, ())))))))))))), (y0, (y1, (y2, ((z3_0, ((), ())), ())))))
def fl17 : sh17.V → (List Bool) × Int × Int × (List Int) × Int × Int × Int × Int × (List Int) × (List (Int × ((List Int) × Unit))) × (List Int) × Int := fun ((_, (x1, (_, (x9, (x11, (_, (x42, (x43, (x44, (_, (x49, (x50, _)))))))))))), (y0, (y1, (y2, ((z3_0, (_, _)), _))))) => (x1, x9, x11, x42, x43, x44, x49, x50, y0, y1, y2, z3_0)
def sh13 : Shape := ⟨[(0, .ref 0), (1, .val (.sl 4 .bool)), (8, .ref 1), (9, .val (.int .i64)), (42, .val (.sl 2 (.int .i64))), (43, .val (.int .i64)), (44, .val (.int .i64))], [(0, .row 2 (.int .i64)), (1, .row 34 (.pair (.int .i64) (.pair (.sl 2 (.int .i64)) .unit)))], 2, []⟩
def osh13kx2 : Shape := ⟨[(0, .ref 0), (8, .ref 1), (9, .val (.int .i64))], [(0, .row 2 (.int .i64)), (1, .row 34 (.pair (.int .i64) (.pair (.sl 2 (.int .i64)) .unit)))], 2, []⟩
def un13 : (List Bool) × Int × (List Int) × Int × Int × (List Int) × (List (Int × ((List Int) × Unit))) → sh13.V := fun (x1, x9, x42, x43, x44, y0, y1) => (((), (x1, ((), (x9, (x42, (x43, (x44, ()))))))), (y0, (y1, ())))
def fl13 : sh13.V → (List Bool) × Int × (List Int) × Int × Int × (List Int) × (List (Int × ((List Int) × Unit))) := fun ((_, (x1, (_, (x9, (x42, (x43, (x44, _))))))), (y0, (y1, _))) => (x1, x9, x42, x43, x44, y0, y1)
def sh28 : Shape := ⟨[(8, .ref 0), (9, .val (.int .i64)), (92, .ref 1), (93, .val (.int .i64)), (94, .val (.int .i64))], [(0, .row 34 (.pair (.int .i64) (.pair (.sl 2 (.int .i64)) .unit))), (1, .row 2 (.int .i64))], 2, []⟩
def osh28kx6 : Shape := ⟨[(8, .ref 0)], [(0, .row 34 (.pair (.int .i64) (.pair (.sl 2 (.int .i64)) .unit)))], 1, []⟩
def un28 : Int × Int × Int × (List (Int × ((List Int) × Unit))) × (List Int) → sh28.V := fun (x9, x93, x94, y0, y1) => (((), (x9, ((), (x93, (x94, ()))))), (y0, (y1, ())))
def fl28 : sh28.V → Int × Int × Int × (List (Int × ((List Int) × Unit))) × (List Int) := fun ((_, (x9, (_, (x93, (x94, _))))), (y0, (y1, _))) => (x9, x93, x94, y0, y1)
def L (k : Nat) (q : Nat) (s : St) (K : AExit → St → Option R) : Option R := bif Nat.beq q 4 then (match sh4.dec s with | some v => l4 (R := R) k k (fl4 v) (fun (x1, y0, y1) => K (.exit 0) (osh4kx0.enc (((), (x1, ((), ()))), (y0, (y1, ()))))) | none => none) else (bif Nat.beq q 17 then (match sh17.dec s with | some v => l17 (R := R) k k (fl17 v) (fun (x1, x11, x42, x43, x44, y0, y1, y2, z3_0) => K (.exit 4) (osh17kx4.enc (((), (x1, ((), (x11, ((), (x42, (x43, (x44, ())))))))), (y0, (y1, (y2, ((z3_0, ((), ())), ()))))))) | none => none) else (bif Nat.beq q 13 then (match sh13.dec s with | some v => l13 (R := R) k k (fl13 v) (fun (x9, y0, y1) => K (.exit 2) (osh13kx2.enc (((), ((), (x9, ()))), (y0, (y1, ()))))) | none => none) else (bif Nat.beq q 28 then (match sh28.dec s with | some v => l28 (R := R) k k (fl28 v) (fun y0 => K (.exit 6) (osh28kx6.enc (((), ()), (y0, ())))) | none => none) else (none))))
def i9001_env (k : Nat) : Env := ⟨Try.prog, 11, AM.look none (tbl k), AM.look none []⟩
def i9001_L (k : Nat) (q : Nat) (s : St) (K : AExit → St → Option R) : Option R := none
def i9001_i1005_env (k : Nat) : Env := ⟨Try.prog, 134, AM.look none (tbl k), AM.look none [(2, some ⟨[(0, .asis), (1, .asis), (2, .asis), (3, .asis), (8, .asis), (9, .asis), (4096, .asis), (4097, .asis), (4098, .asis)], [(4096, .asis), (4097, .asis), (4098, .asis)]⟩)]⟩
def shi9001_i1005_2 : Shape := ⟨[(0, .ref 0), (1, .val (.int .i64)), (2, .val (.int .i64)), (3, .val (.int .i64)), (8, .val .bool), (9, .val .bool), (4096, .ref 1), (4097, .val (.sl 4 .bool)), (4098, .ref 0)], [(0, .row 2 (.int .i64)), (1, .row 2 (.int .i64))], 2, []⟩
def oshi9001_i1005_2kr : Shape := ⟨[(4096, .ref 0), (4097, .val (.sl 4 .bool)), (4098, .ref 1)], [(0, .row 2 (.int .i64)), (1, .row 2 (.int .i64))], 2, []⟩
def uni9001_i1005_2 : Int × Int × Int × Bool × Bool × (List Bool) × (List Int) × (List Int) → shi9001_i1005_2.V := fun (x1, x2, x3, x8, x9, x4097, y0, y1) => (((), (x1, (x2, (x3, (x8, (x9, ((), (x4097, ((), ()))))))))), (y0, (y1, ())))
def fli9001_i1005_2 : shi9001_i1005_2.V → Int × Int × Int × Bool × Bool × (List Bool) × (List Int) × (List Int) := fun ((_, (x1, (x2, (x3, (x8, (x9, (_, (x4097, (_, _))))))))), (y0, (y1, _))) => (x1, x2, x3, x8, x9, x4097, y0, y1)
def i9001_i1005_L (k : Nat) (q : Nat) (s : St) (K : AExit → St → Option R) : Option R := bif Nat.beq q 2 then (match shi9001_i1005_2.dec s with | some v => i9001_i1005_l2 (R := R) k k (fli9001_i1005_2 v) (fun (x4097, y0, y1) => K .ret (oshi9001_i1005_2kr.enc (((), (x4097, ((), ()))), (y0, (y1, ()))))) | none => none) else (none)
def i9001_i1005_i4003_env (k : Nat) : Env := ⟨Try.prog, 49, AM.look none (tbl k), AM.look none [(4, some ⟨[(0, .asis), (1, .asis), (2, .asis), (6, .asis), (7, .asis), (4096, .asis), (4097, .asis), (4098, .asis)], [(0, .asis), (1, .asis), (2, .asis), (6, .asis), (4096, .asis), (4097, .asis), (4098, .asis)]⟩), (1, some ⟨[(0, .asis), (1, .asis), (2, .asis), (6, .asis), (4096, .asis), (4097, .asis), (4098, .asis)], [(4096, .asis), (4097, .asis), (4098, .asis)]⟩)]⟩
def shi9001_i1005_i4003_4 : Shape := ⟨[(0, .ref 0), (1, .val (.int .i64)), (2, .val (.int .i64)), (6, .val (.int .i64)), (7, .val (.int .i64)), (4096, .ref 1), (4097, .val (.sl 4 .bool)), (4098, .ref 0)], [(0, .row 2 (.int .i64)), (1, .row 2 (.int .i64))], 2, []⟩
def oshi9001_i1005_i4003_4kx2 : Shape := ⟨[(0, .ref 0), (1, .val (.int .i64)), (2, .val (.int .i64)), (6, .val (.int .i64)), (4096, .ref 1), (4097, .val (.sl 4 .bool)), (4098, .ref 0)], [(0, .row 2 (.int .i64)), (1, .row 2 (.int .i64))], 2, []⟩
def uni9001_i1005_i4003_4 : Int × Int × Int × Int × (List Bool) × (List Int) × (List Int) → shi9001_i1005_i4003_4.V := fun (x1, x2, x6, x7, x4097, y0, y1) => (((), (x1, (x2, (x6, (x7, ((), (x4097, ((), ())))))))), (y0, (y1, ())))
def fli9001_i1005_i4003_4 : shi9001_i1005_i4003_4.V → Int × Int × Int × Int × (List Bool) × (List Int) × (List Int) := fun ((_, (x1, (x2, (x6, (x7, (_, (x4097, (_, _)))))))), (y0, (y1, _))) => (x1, x2, x6, x7, x4097, y0, y1)
def shi9001_i1005_i4003_1 : Shape := ⟨[(0, .ref 0), (1, .val (.int .i64)), (2, .val (.int .i64)), (6, .val (.int .i64)), (4096, .ref 1), (4097, .val (.sl 4 .bool)), (4098, .ref 0)], [(0, .row 2 (.int .i64)), (1, .row 2 (.int .i64))], 2, []⟩
def oshi9001_i1005_i4003_1kx0 : Shape := ⟨[(4096, .ref 0), (4097, .val (.sl 4 .bool)), (4098, .ref 1)], [(0, .row 2 (.int .i64)), (1, .row 2 (.int .i64))], 2, []⟩
def uni9001_i1005_i4003_1 : Int × Int × Int × (List Bool) × (List Int) × (List Int) → shi9001_i1005_i4003_1.V := fun (x1, x2, x6, x4097, y0, y1) => (((), (x1, (x2, (x6, ((), (x4097, ((), ()))))))), (y0, (y1, ())))
def fli9001_i1005_i4003_1 : shi9001_i1005_i4003_1.V → Int × Int × Int × (List Bool) × (List Int) × (List Int) := fun ((_, (x1, (x2, (x6, (_, (x4097, (_, _))))))), (y0, (y1, _))) => (x1, x2, x6, x4097, y0, y1)
def i9001_i1005_i4003_L (k : Nat) (q : Nat) (s : St) (K : AExit → St → Option R) : Option R := bif Nat.beq q 4 then (match shi9001_i1005_i4003_4.dec s with | some v => i9001_i1005_i4003_l4 (R := R) k k (fli9001_i1005_i4003_4 v) (fun (x1, x2, x6, x4097, y0, y1) => K (.exit 2) (oshi9001_i1005_i4003_4kx2.enc (((), (x1, (x2, (x6, ((), (x4097, ((), ()))))))), (y0, (y1, ()))))) | none => none) else (bif Nat.beq q 1 then (match shi9001_i1005_i4003_1.dec s with | some v => i9001_i1005_i4003_l1 (R := R) k k (fli9001_i1005_i4003_1 v) (fun (x4097, y0, y1) => K (.exit 0) (oshi9001_i1005_i4003_1kx0.enc (((), (x4097, ((), ()))), (y0, (y1, ()))))) | none => none) else (none))
def i12001_env (k : Nat) : Env := ⟨Try.prog, 61, AM.look none (tbl k), AM.look none [(9, some ⟨[(0, .asis), (3, .asis), (4, .asis), (5, .asis), (4096, .asis), (4097, .asis), (4098, .asis), (4099, .asis)], [(0, .asis), (3, .asis), (4096, .asis), (4097, .asis), (4098, .asis), (4099, .asis)]⟩), (4, some ⟨[(0, .asis), (3, .asis), (4096, .asis), (4097, .asis), (4098, .asis), (4099, .asis)], [(0, .asis), (2, .asis), (4096, .asis), (4097, .asis), (4098, .asis), (4099, .asis)]⟩)]⟩
def shi12001_9 : Shape := ⟨[(0, .ref 0), (3, .val (.int .i64)), (4, .part 0), (5, .val (.int .i64)), (4096, .ref 1), (4097, .val (.sl 4 .bool)), (4098, .nils), (4099, .val (.int .i64))], [(0, .row 2 (.int .i64)), (1, .row 2 (.int .i64))], 2, []⟩
def oshi12001_9kx2 : Shape := ⟨[(0, .ref 0), (3, .val (.int .i64)), (4096, .ref 1), (4097, .val (.sl 4 .bool)), (4098, .nils), (4099, .val (.int .i64))], [(0, .row 2 (.int .i64)), (1, .row 2 (.int .i64))], 2, []⟩
def uni12001_9 : Int × Nat × Nat × Int × (List Bool) × Int × (List Int) × (List Int) → shi12001_9.V := fun (x3, x4o, x4n, x5, x4097, x4099, y0, y1) => (((), (x3, ((x4o, x4n), (x5, ((), (x4097, ((), (x4099, ())))))))), (y0, (y1, ())))
def fli12001_9 : shi12001_9.V → Int × Nat × Nat × Int × (List Bool) × Int × (List Int) × (List Int) := fun ((_, (x3, ((x4o, x4n), (x5, (_, (x4097, (_, (x4099, _)))))))), (y0, (y1, _))) => (x3, x4o, x4n, x5, x4097, x4099, y0, y1)
def shi12001_4 : Shape := ⟨[(0, .ref 0), (3, .val (.int .i64)), (4096, .ref 1), (4097, .val (.sl 4 .bool)), (4098, .nils), (4099, .val (.int .i64))], [(0, .row 2 (.int .i64)), (1, .row 2 (.int .i64))], 2, []⟩
def oshi12001_4kx0 : Shape := ⟨[(0, .ref 0), (2, .undef), (4096, .ref 1), (4097, .val (.sl 4 .bool)), (4098, .nils), (4099, .val (.int .i64))], [(0, .row 2 (.int .i64)), (1, .row 2 (.int .i64))], 2, []⟩
def oshi12001_4kr : Shape := ⟨[(0, .ref 0), (2, .part 0), (4096, .ref 1), (4097, .val (.sl 4 .bool)), (4098, .nils), (4099, .val (.int .i64))], [(0, .row 2 (.int .i64)), (1, .row 2 (.int .i64))], 2, []⟩
def uni12001_4 : Int × (List Bool) × Int × (List Int) × (List Int) → shi12001_4.V := fun (x3, x4097, x4099, y0, y1) => (((), (x3, ((), (x4097, ((), (x4099, ())))))), (y0, (y1, ())))
def fli12001_4 : shi12001_4.V → Int × (List Bool) × Int × (List Int) × (List Int) := fun ((_, (x3, (_, (x4097, (_, (x4099, _)))))), (y0, (y1, _))) => (x3, x4097, x4099, y0, y1)
def i12001_L (k : Nat) (q : Nat) (s : St) (K : AExit → St → Option R) : Option R := bif Nat.beq q 9 then (match shi12001_9.dec s with | some v => i12001_l9 (R := R) k k (fli12001_9 v) (fun (x3, x4097, x4099, y0, y1) => K (.exit 2) (oshi12001_9kx2.enc (((), (x3, ((), (x4097, ((), (x4099, ())))))), (y0, (y1, ()))))) | none => none) else (bif Nat.beq q 4 then (match shi12001_4.dec s with | some v => i12001_l4 (R := R) k k (fli12001_4 v) (fun (x4097, x4099, y0, y1) => K (.exit 0) (oshi12001_4kx0.enc (((), ((), ((), (x4097, ((), (x4099, ())))))), (y0, (y1, ()))))) (fun (x2o, x2n, x4097, x4099, y0, y1) => K .ret (oshi12001_4kr.enc (((), ((x2o, x2n), ((), (x4097, ((), (x4099, ())))))), (y0, (y1, ()))))) | none => none) else (none))
def i12001_J (k : Nat) : Inl R := noInl
def i9001_i1005_i4003_J (k : Nat) : Inl R := noInl
def i9001_i1005_J (k : Nat) : Inl R := (inlCons 4003 116 (inst (i9001_i1005_i4003_env k) (i9001_i1005_i4003_J k) (i9001_i1005_i4003_L k) Try.f116 []) noInl)
def i9001_J (k : Nat) : Inl R := (inlCons 1005 113 (inst (i9001_i1005_env k) (i9001_i1005_J k) (i9001_i1005_L k) Try.f113 []) noInl)
def J (k : Nat) : Inl R := (inlCons 9001 107 (inst (i9001_env k) (i9001_J k) (i9001_L k) Try.f107 [0, 1, 5]) (inlCons 12001 108 (inst (i12001_env k) (i12001_J k) (i12001_L k) Try.f108 [0, 1, 8, 9]) noInl))
theorem step4 (k n : Nat) (K : AExit → St → Option R) : ∀ v, aloop (aexec (env k) (J k) (L k) ((findLoop 4 (codeOf Try.f82)).getD .skip)) (normSt [(0, .asis), (1, .asis), (5, .row 2 (.int .i64)), (20, .asis), (21, .asis), (22, .asis)]) (normSt [(0, .asis), (1, .asis), (5, .asis)]) K (n + 1) (sh4.enc (un4 v)) = s4 (R := R) k (fun w => aloop (aexec (env k) (J k) (L k) ((findLoop 4 (codeOf Try.f82)).getD .skip)) (normSt [(0, .asis), (1, .asis), (5, .row 2 (.int .i64)), (20, .asis), (21, .asis), (22, .asis)]) (normSt [(0, .asis), (1, .asis), (5, .asis)]) K n (sh4.enc (un4 w))) (fun (x1, y0, y1) => K (.exit 0) (osh4kx0.enc (((), (x1, ((), ()))), (y0, (y1, ()))))) v := by intro v; kernel_rfl
theorem step17 (k n : Nat) (K : AExit → St → Option R) : ∀ v, aloop (aexec (env k) (J k) (L k) ((findLoop 17 (codeOf Try.f82)).getD .skip)) (normSt [(0, .asis), (1, .asis), (8, .asis), (9, .asis), (11, .asis), (12, (.cel [none, some (2, (.int .i64))])), (42, .asis), (43, .asis), (44, .asis), (48, .asis), (49, .asis), (50, .asis)]) (normSt [(0, .asis), (1, .asis), (8, .asis), (11, .asis), (12, .asis), (42, .asis), (43, .asis), (44, .asis)]) K (n + 1) (sh17.enc (un17 v)) = s17 (R := R) k (fun w => aloop (aexec (env k) (J k) (L k) ((findLoop 17 (codeOf Try.f82)).getD .skip)) (normSt [(0, .asis), (1, .asis), (8, .asis), (9, .asis), (11, .asis), (12, (.cel [none, some (2, (.int .i64))])), (42, .asis), (43, .asis), (44, .asis), (48, .asis), (49, .asis), (50, .asis)]) (normSt [(0, .asis), (1, .asis), (8, .asis), (11, .asis), (12, .asis), (42, .asis), (43, .asis), (44, .asis)]) K n (sh17.enc (un17 w))) (fun (x1, x11, x42, x43, x44, y0, y1, y2, z3_0) => K (.exit 4) (osh17kx4.enc (((), (x1, ((), (x11, ((), (x42, (x43, (x44, ())))))))), (y0, (y1, (y2, ((z3_0, ((), ())), ()))))))) v := by intro v; kernel_rfl
theorem step13 (k n : Nat) (K : AExit → St → Option R) : ∀ v, aloop (aexec (env k) (J k) (L k) ((findLoop 13 (codeOf Try.f82)).getD .skip)) (normSt [(0, .asis), (1, .asis), (8, .row 34 (.pair (.int .i64) (.pair (.sl 2 (.int .i64)) .unit))), (9, .asis), (42, .toval 2 (.int .i64)), (43, .asis), (44, .asis)]) (normSt [(0, .asis), (8, .asis), (9, .asis)]) K (n + 1) (sh13.enc (un13 v)) = s13 (R := R) k (fun w => aloop (aexec (env k) (J k) (L k) ((findLoop 13 (codeOf Try.f82)).getD .skip)) (normSt [(0, .asis), (1, .asis), (8, .row 34 (.pair (.int .i64) (.pair (.sl 2 (.int .i64)) .unit))), (9, .asis), (42, .toval 2 (.int .i64)), (43, .asis), (44, .asis)]) (normSt [(0, .asis), (8, .asis), (9, .asis)]) K n (sh13.enc (un13 w))) (fun (x9, y0, y1) => K (.exit 2) (osh13kx2.enc (((), ((), (x9, ()))), (y0, (y1, ()))))) v := by intro v; kernel_rfl
theorem step28 (k n : Nat) (K : AExit → St → Option R) : ∀ v, aloop (aexec (env k) (J k) (L k) ((findLoop 28 (codeOf Try.f82)).getD .skip)) (normSt [(8, .asis), (9, .asis), (92, .asis), (93, .asis), (94, .asis)]) (normSt [(8, .asis)]) K (n + 1) (sh28.enc (un28 v)) = s28 (R := R) k (fun w => aloop (aexec (env k) (J k) (L k) ((findLoop 28 (codeOf Try.f82)).getD .skip)) (normSt [(8, .asis), (9, .asis), (92, .asis), (93, .asis), (94, .asis)]) (normSt [(8, .asis)]) K n (sh28.enc (un28 w))) (fun y0 => K (.exit 6) (osh28kx6.enc (((), ()), (y0, ())))) v := by intro v; kernel_rfl
theorem stepi9001_i1005_2 (k n : Nat) (K : AExit → St → Option R) : ∀ v, aloop (aexec (i9001_i1005_env k) (i9001_i1005_J k) (i9001_i1005_L k) ((findLoop 2 (codeOf Try.f113)).getD .skip)) (normSt [(0, .asis), (1, .asis), (2, .asis), (3, .asis), (8, .asis), (9, .asis), (4096, .asis), (4097, .asis), (4098, .asis)]) (normSt [(4096, .asis), (4097, .asis), (4098, .asis)]) K (n + 1) (shi9001_i1005_2.enc (uni9001_i1005_2 v)) = i9001_i1005_s2 (R := R) k (fun w => aloop (aexec (i9001_i1005_env k) (i9001_i1005_J k) (i9001_i1005_L k) ((findLoop 2 (codeOf Try.f113)).getD .skip)) (normSt [(0, .asis), (1, .asis), (2, .asis), (3, .asis), (8, .asis), (9, .asis), (4096, .asis), (4097, .asis), (4098, .asis)]) (normSt [(4096, .asis), (4097, .asis), (4098, .asis)]) K n (shi9001_i1005_2.enc (uni9001_i1005_2 w))) (fun (x4097, y0, y1) => K .ret (oshi9001_i1005_2kr.enc (((), (x4097, ((), ()))), (y0, (y1, ()))))) v := by intro v; kernel_rfl
theorem stepi9001_i1005_i4003_4 (k n : Nat) (K : AExit → St → Option R) : ∀ v, aloop (aexec (i9001_i1005_i4003_env k) (i9001_i1005_i4003_J k) (i9001_i1005_i4003_L k) ((findLoop 4 (codeOf Try.f116)).getD .skip)) (normSt [(0, .asis), (1, .asis), (2, .asis), (6, .asis), (7, .asis), (4096, .asis), (4097, .asis), (4098, .asis)]) (normSt [(0, .asis), (1, .asis), (2, .asis), (6, .asis), (4096, .asis), (4097, .asis), (4098, .asis)]) K (n + 1) (shi9001_i1005_i4003_4.enc (uni9001_i1005_i4003_4 v)) = i9001_i1005_i4003_s4 (R := R) k (fun w => aloop (aexec (i9001_i1005_i4003_env k) (i9001_i1005_i4003_J k) (i9001_i1005_i4003_L k) ((findLoop 4 (codeOf Try.f116)).getD .skip)) (normSt [(0, .asis), (1, .asis), (2, .asis), (6, .asis), (7, .asis), (4096, .asis), (4097, .asis), (4098, .asis)]) (normSt [(0, .asis), (1, .asis), (2, .asis), (6, .asis), (4096, .asis), (4097, .asis), (4098, .asis)]) K n (shi9001_i1005_i4003_4.enc (uni9001_i1005_i4003_4 w))) (fun (x1, x2, x6, x4097, y0, y1) => K (.exit 2) (oshi9001_i1005_i4003_4kx2.enc (((), (x1, (x2, (x6, ((), (x4097, ((), ()))))))), (y0, (y1, ()))))) v := by intro v; kernel_rfl
theorem stepi9001_i1005_i4003_1 (k n : Nat) (K : AExit → St → Option R) : ∀ v, aloop (aexec (i9001_i1005_i4003_env k) (i9001_i1005_i4003_J k) (i9001_i1005_i4003_L k) ((findLoop 1 (codeOf Try.f116)).getD .skip)) (normSt [(0, .asis), (1, .asis), (2, .asis), (6, .asis), (4096, .asis), (4097, .asis), (4098, .asis)]) (normSt [(4096, .asis), (4097, .asis), (4098, .asis)]) K (n + 1) (shi9001_i1005_i4003_1.enc (uni9001_i1005_i4003_1 v)) = i9001_i1005_i4003_s1 (R := R) k (fun w => aloop (aexec (i9001_i1005_i4003_env k) (i9001_i1005_i4003_J k) (i9001_i1005_i4003_L k) ((findLoop 1 (codeOf Try.f116)).getD .skip)) (normSt [(0, .asis), (1, .asis), (2, .asis), (6, .asis), (4096, .asis), (4097, .asis), (4098, .asis)]) (normSt [(4096, .asis), (4097, .asis), (4098, .asis)]) K n (shi9001_i1005_i4003_1.enc (uni9001_i1005_i4003_1 w))) (fun (x4097, y0, y1) => K (.exit 0) (oshi9001_i1005_i4003_1kx0.enc (((), (x4097, ((), ()))), (y0, (y1, ()))))) v := by intro v; kernel_rfl
theorem stepi12001_9 (k n : Nat) (K : AExit → St → Option R) : ∀ v, aloop (aexec (i12001_env k) (i12001_J k) (i12001_L k) ((findLoop 9 (codeOf Try.f108)).getD .skip)) (normSt [(0, .asis), (3, .asis), (4, .asis), (5, .asis), (4096, .asis), (4097, .asis), (4098, .asis), (4099, .asis)]) (normSt [(0, .asis), (3, .asis), (4096, .asis), (4097, .asis), (4098, .asis), (4099, .asis)]) K (n + 1) (shi12001_9.enc (uni12001_9 v)) = i12001_s9 (R := R) k (fun w => aloop (aexec (i12001_env k) (i12001_J k) (i12001_L k) ((findLoop 9 (codeOf Try.f108)).getD .skip)) (normSt [(0, .asis), (3, .asis), (4, .asis), (5, .asis), (4096, .asis), (4097, .asis), (4098, .asis), (4099, .asis)]) (normSt [(0, .asis), (3, .asis), (4096, .asis), (4097, .asis), (4098, .asis), (4099, .asis)]) K n (shi12001_9.enc (uni12001_9 w))) (fun (x3, x4097, x4099, y0, y1) => K (.exit 2) (oshi12001_9kx2.enc (((), (x3, ((), (x4097, ((), (x4099, ())))))), (y0, (y1, ()))))) v := by intro v; kernel_rfl
theorem stepi12001_4 (k n : Nat) (K : AExit → St → Option R) : ∀ v, aloop (aexec (i12001_env k) (i12001_J k) (i12001_L k) ((findLoop 4 (codeOf Try.f108)).getD .skip)) (normSt [(0, .asis), (3, .asis), (4096, .asis), (4097, .asis), (4098, .asis), (4099, .asis)]) (normSt [(0, .asis), (2, .asis), (4096, .asis), (4097, .asis), (4098, .asis), (4099, .asis)]) K (n + 1) (shi12001_4.enc (uni12001_4 v)) = i12001_s4 (R := R) k (fun w => aloop (aexec (i12001_env k) (i12001_J k) (i12001_L k) ((findLoop 4 (codeOf Try.f108)).getD .skip)) (normSt [(0, .asis), (3, .asis), (4096, .asis), (4097, .asis), (4098, .asis), (4099, .asis)]) (normSt [(0, .asis), (2, .asis), (4096, .asis), (4097, .asis), (4098, .asis), (4099, .asis)]) K n (shi12001_4.enc (uni12001_4 w))) (fun (x4097, x4099, y0, y1) => K (.exit 0) (oshi12001_4kx0.enc (((), ((), ((), (x4097, ((), (x4099, ())))))), (y0, (y1, ()))))) (fun (x2o, x2n, x4097, x4099, y0, y1) => K .ret (oshi12001_4kr.enc (((), ((x2o, x2n), ((), (x4097, ((), (x4099, ())))))), (y0, (y1, ()))))) v := by intro v; kernel_rfl
theorem eq (k : Nat) : ∀ a, aexec (env k) (J k) (L k) (codeOf Try.f82) (begSt [.ro (.sl 2 (.int .i64)), .ro (.sl 4 .bool)] a) (finK (env k) Try.f82 [.ro (.sl 2 (.int .i64)), .ro (.sl 4 .bool)] [.own (.sl 34 (.pair (.int .i64) (.pair (.sl 2 (.int .i64)) .unit)))]) = (entry k).fn a := by intro a; kernel_rfl
theorem run4 (k : Nat) (K : AExit → St → Option R) : ∀ n v, aloop (aexec (env k) (J k) (L k) ((findLoop 4 (codeOf Try.f82)).getD .skip)) (normSt [(0, .asis), (1, .asis), (5, .row 2 (.int .i64)), (20, .asis), (21, .asis), (22, .asis)]) (normSt [(0, .asis), (1, .asis), (5, .asis)]) K n (sh4.enc (un4 v)) = l4 (R := R) k n v (fun (x1, y0, y1) => K (.exit 0) (osh4kx0.enc (((), (x1, ((), ()))), (y0, (y1, ()))))) := loop_eq (fun n v => aloop (aexec (env k) (J k) (L k) ((findLoop 4 (codeOf Try.f82)).getD .skip)) (normSt [(0, .asis), (1, .asis), (5, .row 2 (.int .i64)), (20, .asis), (21, .asis), (22, .asis)]) (normSt [(0, .asis), (1, .asis), (5, .asis)]) K n (sh4.enc (un4 v))) (fun n v => l4 (R := R) k n v (fun (x1, y0, y1) => K (.exit 0) (osh4kx0.enc (((), (x1, ((), ()))), (y0, (y1, ())))))) (fun X v => s4 (R := R) k X (fun (x1, y0, y1) => K (.exit 0) (osh4kx0.enc (((), (x1, ((), ()))), (y0, (y1, ()))))) v) (fun _ => rfl) (fun n v => step4 k n K v) (fun n v => rfl)
theorem run17 (k : Nat) (K : AExit → St → Option R) : ∀ n v, aloop (aexec (env k) (J k) (L k) ((findLoop 17 (codeOf Try.f82)).getD .skip)) (normSt [(0, .asis), (1, .asis), (8, .asis), (9, .asis), (11, .asis), (12, (.cel [none, some (2, (.int .i64))])), (42, .asis), (43, .asis), (44, .asis), (48, .asis), (49, .asis), (50, .asis)]) (normSt [(0, .asis), (1, .asis), (8, .asis), (11, .asis), (12, .asis), (42, .asis), (43, .asis), (44, .asis)]) K n (sh17.enc (un17 v)) = l17 (R := R) k n v (fun (x1, x11, x42, x43, x44, y0, y1, y2, z3_0) => K (.exit 4) (osh17kx4.enc (((), (x1, ((), (x11, ((), (x42, (x43, (x44, ())))))))), (y0, (y1, (y2, ((z3_0, ((), ())), ()))))))) := loop_eq (fun n v => aloop (aexec (env k) (J k) (L k) ((findLoop 17 (codeOf Try.f82)).getD .skip)) (normSt [(0, .asis), (1, .asis), (8, .asis), (9, .asis), (11, .asis), (12, (.cel [none, some (2, (.int .i64))])), (42, .asis), (43, .asis), (44, .asis), (48, .asis), (49, .asis), (50, .asis)]) (normSt [(0, .asis), (1, .asis), (8, .asis), (11, .asis), (12, .asis), (42, .asis), (43, .asis), (44, .asis)]) K n (sh17.enc (un17 v))) (fun n v => l17 (R := R) k n v (fun (x1, x11, x42, x43, x44, y0, y1, y2, z3_0) => K (.exit 4) (osh17kx4.enc (((), (x1, ((), (x11, ((), (x42, (x43, (x44, ())))))))), (y0, (y1, (y2, ((z3_0, ((), ())), ())))))))) (fun X v => s17 (R := R) k X (fun (x1, x11, x42, x43, x44, y0, y1, y2, z3_0) => K (.exit 4) (osh17kx4.enc (((), (x1, ((), (x11, ((), (x42, (x43, (x44, ())))))))), (y0, (y1, (y2, ((z3_0, ((), ())), ()))))))) v) (fun _ => rfl) (fun n v => step17 k n K v) (fun n v => rfl)
theorem run13 (k : Nat) (K : AExit → St → Option R) : ∀ n v, aloop (aexec (env k) (J k) (L k) ((findLoop 13 (codeOf Try.f82)).getD .skip)) (normSt [(0, .asis), (1, .asis), (8, .row 34 (.pair (.int .i64) (.pair (.sl 2 (.int .i64)) .unit))), (9, .asis), (42, .toval 2 (.int .i64)), (43, .asis), (44, .asis)]) (normSt [(0, .asis), (8, .asis), (9, .asis)]) K n (sh13.enc (un13 v)) = l13 (R := R) k n v (fun (x9, y0, y1) => K (.exit 2) (osh13kx2.enc (((), ((), (x9, ()))), (y0, (y1, ()))))) := loop_eq (fun n v => aloop (aexec (env k) (J k) (L k) ((findLoop 13 (codeOf Try.f82)).getD .skip)) (normSt [(0, .asis), (1, .asis), (8, .row 34 (.pair (.int .i64) (.pair (.sl 2 (.int .i64)) .unit))), (9, .asis), (42, .toval 2 (.int .i64)), (43, .asis), (44, .asis)]) (normSt [(0, .asis), (8, .asis), (9, .asis)]) K n (sh13.enc (un13 v))) (fun n v => l13 (R := R) k n v (fun (x9, y0, y1) => K (.exit 2) (osh13kx2.enc (((), ((), (x9, ()))), (y0, (y1, ())))))) (fun X v => s13 (R := R) k X (fun (x9, y0, y1) => K (.exit 2) (osh13kx2.enc (((), ((), (x9, ()))), (y0, (y1, ()))))) v) (fun _ => rfl) (fun n v => step13 k n K v) (fun n v => rfl)
theorem run28 (k : Nat) (K : AExit → St → Option R) : ∀ n v, aloop (aexec (env k) (J k) (L k) ((findLoop 28 (codeOf Try.f82)).getD .skip)) (normSt [(8, .asis), (9, .asis), (92, .asis), (93, .asis), (94, .asis)]) (normSt [(8, .asis)]) K n (sh28.enc (un28 v)) = l28 (R := R) k n v (fun y0 => K (.exit 6) (osh28kx6.enc (((), ()), (y0, ())))) := loop_eq (fun n v => aloop (aexec (env k) (J k) (L k) ((findLoop 28 (codeOf Try.f82)).getD .skip)) (normSt [(8, .asis), (9, .asis), (92, .asis), (93, .asis), (94, .asis)]) (normSt [(8, .asis)]) K n (sh28.enc (un28 v))) (fun n v => l28 (R := R) k n v (fun y0 => K (.exit 6) (osh28kx6.enc (((), ()), (y0, ()))))) (fun X v => s28 (R := R) k X (fun y0 => K (.exit 6) (osh28kx6.enc (((), ()), (y0, ())))) v) (fun _ => rfl) (fun n v => step28 k n K v) (fun n v => rfl)
theorem loops (k : Nat) : LoopsOk (env k) (J k) (L k) (codeOf Try.f82) := by
  intro c an hc han s K r h
  unfold L at h
  by_cases q4 : firstRegion c = 4
  · have h1 := key_eq q4 h
    rw [q4] at hc han
    have e2 : an = ⟨[(0, .asis), (1, .asis), (5, .row 2 (.int .i64)), (20, .asis), (21, .asis), (22, .asis)], [(0, .asis), (1, .asis), (5, .asis)]⟩ := (Option.some.inj (show some _ = some an from han)).symm
    have e1 : c = (findLoop 4 (codeOf Try.f82)).getD .skip := by rw [hc]; rfl
    cases hd : sh4.dec s with
    | none => rw [hd] at h1; cases h1
    | some v =>
      rw [hd] at h1
      refine ⟨k, ?_⟩
      rw [e1, e2, Shape.dec_enc _ _ _ hd]
      exact (run4 k K k (fl4 v)).trans h1
  have h := not_key q4 h
  by_cases q17 : firstRegion c = 17
  · have h1 := key_eq q17 h
    rw [q17] at hc han
    have e2 : an = ⟨[(0, .asis), (1, .asis), (8, .asis), (9, .asis), (11, .asis), (12, (.cel [none, some (2, (.int .i64))])), (42, .asis), (43, .asis), (44, .asis), (48, .asis), (49, .asis), (50, .asis)], [(0, .asis), (1, .asis), (8, .asis), (11, .asis), (12, .asis), (42, .asis), (43, .asis), (44, .asis)]⟩ := (Option.some.inj (show some _ = some an from han)).symm
    have e1 : c = (findLoop 17 (codeOf Try.f82)).getD .skip := by rw [hc]; rfl
    cases hd : sh17.dec s with
    | none => rw [hd] at h1; cases h1
    | some v =>
      rw [hd] at h1
      refine ⟨k, ?_⟩
      rw [e1, e2, Shape.dec_enc _ _ _ hd]
      exact (run17 k K k (fl17 v)).trans h1
  have h := not_key q17 h
  by_cases q13 : firstRegion c = 13
  · have h1 := key_eq q13 h
    rw [q13] at hc han
    have e2 : an = ⟨[(0, .asis), (1, .asis), (8, .row 34 (.pair (.int .i64) (.pair (.sl 2 (.int .i64)) .unit))), (9, .asis), (42, .toval 2 (.int .i64)), (43, .asis), (44, .asis)], [(0, .asis), (8, .asis), (9, .asis)]⟩ := (Option.some.inj (show some _ = some an from han)).symm
    have e1 : c = (findLoop 13 (codeOf Try.f82)).getD .skip := by rw [hc]; rfl
    cases hd : sh13.dec s with
    | none => rw [hd] at h1; cases h1
    | some v =>
      rw [hd] at h1
      refine ⟨k, ?_⟩
      rw [e1, e2, Shape.dec_enc _ _ _ hd]
      exact (run13 k K k (fl13 v)).trans h1
  have h := not_key q13 h
  by_cases q28 : firstRegion c = 28
  · have h1 := key_eq q28 h
    rw [q28] at hc han
    have e2 : an = ⟨[(8, .asis), (9, .asis), (92, .asis), (93, .asis), (94, .asis)], [(8, .asis)]⟩ := (Option.some.inj (show some _ = some an from han)).symm
    have e1 : c = (findLoop 28 (codeOf Try.f82)).getD .skip := by rw [hc]; rfl
    cases hd : sh28.dec s with
    | none => rw [hd] at h1; cases h1
    | some v =>
      rw [hd] at h1
      refine ⟨k, ?_⟩
      rw [e1, e2, Shape.dec_enc _ _ _ hd]
      exact (run28 k K k (fl28 v)).trans h1
  have h := not_key q28 h
  cases h
theorem i9001_loops (k : Nat) : LoopsOk (i9001_env k) (i9001_J k) (i9001_L k) (codeOf Try.f107) := by
  intro c an hc han s K r h
  unfold i9001_L at h
  cases h
theorem runi9001_i1005_2 (k : Nat) (K : AExit → St → Option R) : ∀ n v, aloop (aexec (i9001_i1005_env k) (i9001_i1005_J k) (i9001_i1005_L k) ((findLoop 2 (codeOf Try.f113)).getD .skip)) (normSt [(0, .asis), (1, .asis), (2, .asis), (3, .asis), (8, .asis), (9, .asis), (4096, .asis), (4097, .asis), (4098, .asis)]) (normSt [(4096, .asis), (4097, .asis), (4098, .asis)]) K n (shi9001_i1005_2.enc (uni9001_i1005_2 v)) = i9001_i1005_l2 (R := R) k n v (fun (x4097, y0, y1) => K .ret (oshi9001_i1005_2kr.enc (((), (x4097, ((), ()))), (y0, (y1, ()))))) := loop_eq (fun n v => aloop (aexec (i9001_i1005_env k) (i9001_i1005_J k) (i9001_i1005_L k) ((findLoop 2 (codeOf Try.f113)).getD .skip)) (normSt [(0, .asis), (1, .asis), (2, .asis), (3, .asis), (8, .asis), (9, .asis), (4096, .asis), (4097, .asis), (4098, .asis)]) (normSt [(4096, .asis), (4097, .asis), (4098, .asis)]) K n (shi9001_i1005_2.enc (uni9001_i1005_2 v))) (fun n v => i9001_i1005_l2 (R := R) k n v (fun (x4097, y0, y1) => K .ret (oshi9001_i1005_2kr.enc (((), (x4097, ((), ()))), (y0, (y1, ())))))) (fun X v => i9001_i1005_s2 (R := R) k X (fun (x4097, y0, y1) => K .ret (oshi9001_i1005_2kr.enc (((), (x4097, ((), ()))), (y0, (y1, ()))))) v) (fun _ => rfl) (fun n v => stepi9001_i1005_2 k n K v) (fun n v => rfl)
theorem i9001_i1005_loops (k : Nat) : LoopsOk (i9001_i1005_env k) (i9001_i1005_J k) (i9001_i1005_L k) (codeOf Try.f113) := by
  intro c an hc han s K r h
  unfold i9001_i1005_L at h
  by_cases q2 : firstRegion c = 2
  · have h1 := key_eq q2 h
    rw [q2] at hc han
    have e2 : an = ⟨[(0, .asis), (1, .asis), (2, .asis), (3, .asis), (8, .asis), (9, .asis), (4096, .asis), (4097, .asis), (4098, .asis)], [(4096, .asis), (4097, .asis), (4098, .asis)]⟩ := (Option.some.inj (show some _ = some an from han)).symm
    have e1 : c = (findLoop 2 (codeOf Try.f113)).getD .skip := by rw [hc]; rfl
    cases hd : shi9001_i1005_2.dec s with
    | none => rw [hd] at h1; cases h1
    | some v =>
      rw [hd] at h1
      refine ⟨k, ?_⟩
      rw [e1, e2, Shape.dec_enc _ _ _ hd]
      exact (runi9001_i1005_2 k K k (fli9001_i1005_2 v)).trans h1
  have h := not_key q2 h
  cases h
theorem runi9001_i1005_i4003_4 (k : Nat) (K : AExit → St → Option R) : ∀ n v, aloop (aexec (i9001_i1005_i4003_env k) (i9001_i1005_i4003_J k) (i9001_i1005_i4003_L k) ((findLoop 4 (codeOf Try.f116)).getD .skip)) (normSt [(0, .asis), (1, .asis), (2, .asis), (6, .asis), (7, .asis), (4096, .asis), (4097, .asis), (4098, .asis)]) (normSt [(0, .asis), (1, .asis), (2, .asis), (6, .asis), (4096, .asis), (4097, .asis), (4098, .asis)]) K n (shi9001_i1005_i4003_4.enc (uni9001_i1005_i4003_4 v)) = i9001_i1005_i4003_l4 (R := R) k n v (fun (x1, x2, x6, x4097, y0, y1) => K (.exit 2) (oshi9001_i1005_i4003_4kx2.enc (((), (x1, (x2, (x6, ((), (x4097, ((), ()))))))), (y0, (y1, ()))))) := loop_eq (fun n v => aloop (aexec (i9001_i1005_i4003_env k) (i9001_i1005_i4003_J k) (i9001_i1005_i4003_L k) ((findLoop 4 (codeOf Try.f116)).getD .skip)) (normSt [(0, .asis), (1, .asis), (2, .asis), (6, .asis), (7, .asis), (4096, .asis), (4097, .asis), (4098, .asis)]) (normSt [(0, .asis), (1, .asis), (2, .asis), (6, .asis), (4096, .asis), (4097, .asis), (4098, .asis)]) K n (shi9001_i1005_i4003_4.enc (uni9001_i1005_i4003_4 v))) (fun n v => i9001_i1005_i4003_l4 (R := R) k n v (fun (x1, x2, x6, x4097, y0, y1) => K (.exit 2) (oshi9001_i1005_i4003_4kx2.enc (((), (x1, (x2, (x6, ((), (x4097, ((), ()))))))), (y0, (y1, ())))))) (fun X v => i9001_i1005_i4003_s4 (R := R) k X (fun (x1, x2, x6, x4097, y0, y1) => K (.exit 2) (oshi9001_i1005_i4003_4kx2.enc (((), (x1, (x2, (x6, ((), (x4097, ((), ()))))))), (y0, (y1, ()))))) v) (fun _ => rfl) (fun n v => stepi9001_i1005_i4003_4 k n K v) (fun n v => rfl)
theorem runi9001_i1005_i4003_1 (k : Nat) (K : AExit → St → Option R) : ∀ n v, aloop (aexec (i9001_i1005_i4003_env k) (i9001_i1005_i4003_J k) (i9001_i1005_i4003_L k) ((findLoop 1 (codeOf Try.f116)).getD .skip)) (normSt [(0, .asis), (1, .asis), (2, .asis), (6, .asis), (4096, .asis), (4097, .asis), (4098, .asis)]) (normSt [(4096, .asis), (4097, .asis), (4098, .asis)]) K n (shi9001_i1005_i4003_1.enc (uni9001_i1005_i4003_1 v)) = i9001_i1005_i4003_l1 (R := R) k n v (fun (x4097, y0, y1) => K (.exit 0) (oshi9001_i1005_i4003_1kx0.enc (((), (x4097, ((), ()))), (y0, (y1, ()))))) := loop_eq (fun n v => aloop (aexec (i9001_i1005_i4003_env k) (i9001_i1005_i4003_J k) (i9001_i1005_i4003_L k) ((findLoop 1 (codeOf Try.f116)).getD .skip)) (normSt [(0, .asis), (1, .asis), (2, .asis), (6, .asis), (4096, .asis), (4097, .asis), (4098, .asis)]) (normSt [(4096, .asis), (4097, .asis), (4098, .asis)]) K n (shi9001_i1005_i4003_1.enc (uni9001_i1005_i4003_1 v))) (fun n v => i9001_i1005_i4003_l1 (R := R) k n v (fun (x4097, y0, y1) => K (.exit 0) (oshi9001_i1005_i4003_1kx0.enc (((), (x4097, ((), ()))), (y0, (y1, ())))))) (fun X v => i9001_i1005_i4003_s1 (R := R) k X (fun (x4097, y0, y1) => K (.exit 0) (oshi9001_i1005_i4003_1kx0.enc (((), (x4097, ((), ()))), (y0, (y1, ()))))) v) (fun _ => rfl) (fun n v => stepi9001_i1005_i4003_1 k n K v) (fun n v => rfl)
theorem i9001_i1005_i4003_loops (k : Nat) : LoopsOk (i9001_i1005_i4003_env k) (i9001_i1005_i4003_J k) (i9001_i1005_i4003_L k) (codeOf Try.f116) := by
  intro c an hc han s K r h
  unfold i9001_i1005_i4003_L at h
  by_cases q4 : firstRegion c = 4
  · have h1 := key_eq q4 h
    rw [q4] at hc han
    have e2 : an = ⟨[(0, .asis), (1, .asis), (2, .asis), (6, .asis), (7, .asis), (4096, .asis), (4097, .asis), (4098, .asis)], [(0, .asis), (1, .asis), (2, .asis), (6, .asis), (4096, .asis), (4097, .asis), (4098, .asis)]⟩ := (Option.some.inj (show some _ = some an from han)).symm
    have e1 : c = (findLoop 4 (codeOf Try.f116)).getD .skip := by rw [hc]; rfl
    cases hd : shi9001_i1005_i4003_4.dec s with
    | none => rw [hd] at h1; cases h1
    | some v =>
      rw [hd] at h1
      refine ⟨k, ?_⟩
      rw [e1, e2, Shape.dec_enc _ _ _ hd]
      exact (runi9001_i1005_i4003_4 k K k (fli9001_i1005_i4003_4 v)).trans h1
  have h := not_key q4 h
  by_cases q1 : firstRegion c = 1
  · have h1 := key_eq q1 h
    rw [q1] at hc han
    have e2 : an = ⟨[(0, .asis), (1, .asis), (2, .asis), (6, .asis), (4096, .asis), (4097, .asis), (4098, .asis)], [(4096, .asis), (4097, .asis), (4098, .asis)]⟩ := (Option.some.inj (show some _ = some an from han)).symm
    have e1 : c = (findLoop 1 (codeOf Try.f116)).getD .skip := by rw [hc]; rfl
    cases hd : shi9001_i1005_i4003_1.dec s with
    | none => rw [hd] at h1; cases h1
    | some v =>
      rw [hd] at h1
      refine ⟨k, ?_⟩
      rw [e1, e2, Shape.dec_enc _ _ _ hd]
      exact (runi9001_i1005_i4003_1 k K k (fli9001_i1005_i4003_1 v)).trans h1
  have h := not_key q1 h
  cases h
theorem runi12001_9 (k : Nat) (K : AExit → St → Option R) : ∀ n v, aloop (aexec (i12001_env k) (i12001_J k) (i12001_L k) ((findLoop 9 (codeOf Try.f108)).getD .skip)) (normSt [(0, .asis), (3, .asis), (4, .asis), (5, .asis), (4096, .asis), (4097, .asis), (4098, .asis), (4099, .asis)]) (normSt [(0, .asis), (3, .asis), (4096, .asis), (4097, .asis), (4098, .asis), (4099, .asis)]) K n (shi12001_9.enc (uni12001_9 v)) = i12001_l9 (R := R) k n v (fun (x3, x4097, x4099, y0, y1) => K (.exit 2) (oshi12001_9kx2.enc (((), (x3, ((), (x4097, ((), (x4099, ())))))), (y0, (y1, ()))))) := loop_eq (fun n v => aloop (aexec (i12001_env k) (i12001_J k) (i12001_L k) ((findLoop 9 (codeOf Try.f108)).getD .skip)) (normSt [(0, .asis), (3, .asis), (4, .asis), (5, .asis), (4096, .asis), (4097, .asis), (4098, .asis), (4099, .asis)]) (normSt [(0, .asis), (3, .asis), (4096, .asis), (4097, .asis), (4098, .asis), (4099, .asis)]) K n (shi12001_9.enc (uni12001_9 v))) (fun n v => i12001_l9 (R := R) k n v (fun (x3, x4097, x4099, y0, y1) => K (.exit 2) (oshi12001_9kx2.enc (((), (x3, ((), (x4097, ((), (x4099, ())))))), (y0, (y1, ())))))) (fun X v => i12001_s9 (R := R) k X (fun (x3, x4097, x4099, y0, y1) => K (.exit 2) (oshi12001_9kx2.enc (((), (x3, ((), (x4097, ((), (x4099, ())))))), (y0, (y1, ()))))) v) (fun _ => rfl) (fun n v => stepi12001_9 k n K v) (fun n v => rfl)
theorem runi12001_4 (k : Nat) (K : AExit → St → Option R) : ∀ n v, aloop (aexec (i12001_env k) (i12001_J k) (i12001_L k) ((findLoop 4 (codeOf Try.f108)).getD .skip)) (normSt [(0, .asis), (3, .asis), (4096, .asis), (4097, .asis), (4098, .asis), (4099, .asis)]) (normSt [(0, .asis), (2, .asis), (4096, .asis), (4097, .asis), (4098, .asis), (4099, .asis)]) K n (shi12001_4.enc (uni12001_4 v)) = i12001_l4 (R := R) k n v (fun (x4097, x4099, y0, y1) => K (.exit 0) (oshi12001_4kx0.enc (((), ((), ((), (x4097, ((), (x4099, ())))))), (y0, (y1, ()))))) (fun (x2o, x2n, x4097, x4099, y0, y1) => K .ret (oshi12001_4kr.enc (((), ((x2o, x2n), ((), (x4097, ((), (x4099, ())))))), (y0, (y1, ()))))) := loop_eq (fun n v => aloop (aexec (i12001_env k) (i12001_J k) (i12001_L k) ((findLoop 4 (codeOf Try.f108)).getD .skip)) (normSt [(0, .asis), (3, .asis), (4096, .asis), (4097, .asis), (4098, .asis), (4099, .asis)]) (normSt [(0, .asis), (2, .asis), (4096, .asis), (4097, .asis), (4098, .asis), (4099, .asis)]) K n (shi12001_4.enc (uni12001_4 v))) (fun n v => i12001_l4 (R := R) k n v (fun (x4097, x4099, y0, y1) => K (.exit 0) (oshi12001_4kx0.enc (((), ((), ((), (x4097, ((), (x4099, ())))))), (y0, (y1, ()))))) (fun (x2o, x2n, x4097, x4099, y0, y1) => K .ret (oshi12001_4kr.enc (((), ((x2o, x2n), ((), (x4097, ((), (x4099, ())))))), (y0, (y1, ())))))) (fun X v => i12001_s4 (R := R) k X (fun (x4097, x4099, y0, y1) => K (.exit 0) (oshi12001_4kx0.enc (((), ((), ((), (x4097, ((), (x4099, ())))))), (y0, (y1, ()))))) (fun (x2o, x2n, x4097, x4099, y0, y1) => K .ret (oshi12001_4kr.enc (((), ((x2o, x2n), ((), (x4097, ((), (x4099, ())))))), (y0, (y1, ()))))) v) (fun _ => rfl) (fun n v => stepi12001_4 k n K v) (fun n v => rfl)
theorem i12001_loops (k : Nat) : LoopsOk (i12001_env k) (i12001_J k) (i12001_L k) (codeOf Try.f108) := by
  intro c an hc han s K r h
  unfold i12001_L at h
  by_cases q9 : firstRegion c = 9
  · have h1 := key_eq q9 h
    rw [q9] at hc han
    have e2 : an = ⟨[(0, .asis), (3, .asis), (4, .asis), (5, .asis), (4096, .asis), (4097, .asis), (4098, .asis), (4099, .asis)], [(0, .asis), (3, .asis), (4096, .asis), (4097, .asis), (4098, .asis), (4099, .asis)]⟩ := (Option.some.inj (show some _ = some an from han)).symm
    have e1 : c = (findLoop 9 (codeOf Try.f108)).getD .skip := by rw [hc]; rfl
    cases hd : shi12001_9.dec s with
    | none => rw [hd] at h1; cases h1
    | some v =>
      rw [hd] at h1
      refine ⟨k, ?_⟩
      rw [e1, e2, Shape.dec_enc _ _ _ hd]
      exact (runi12001_9 k K k (fli12001_9 v)).trans h1
  have h := not_key q9 h
  by_cases q4 : firstRegion c = 4
  · have h1 := key_eq q4 h
    rw [q4] at hc han
    have e2 : an = ⟨[(0, .asis), (3, .asis), (4096, .asis), (4097, .asis), (4098, .asis), (4099, .asis)], [(0, .asis), (2, .asis), (4096, .asis), (4097, .asis), (4098, .asis), (4099, .asis)]⟩ := (Option.some.inj (show some _ = some an from han)).symm
    have e1 : c = (findLoop 4 (codeOf Try.f108)).getD .skip := by rw [hc]; rfl
    cases hd : shi12001_4.dec s with
    | none => rw [hd] at h1; cases h1
    | some v =>
      rw [hd] at h1
      refine ⟨k, ?_⟩
      rw [e1, e2, Shape.dec_enc _ _ _ hd]
      exact (runi12001_4 k K k (fli12001_4 v)).trans h1
  have h := not_key q4 h
  cases h
theorem i12001_fit (k : Nat) : codeFit (i12001_env k) (codeOf Try.f108) = true := by kernel_rfl
theorem i12001_lps : (loopsIn (codeOf Try.f108)).map (fun d => findLoop (firstRegion d) (codeOf Try.f108)) = (loopsIn (codeOf Try.f108)).map some := by kernel_rfl
theorem i12001_hf : Try.prog.funcs[108]? = some Try.f108 := by kernel_rfl
theorem i12001_hb : Try.f108.body = some (codeOf Try.f108) := by kernel_rfl
theorem i12001_hn : (Try.f108.name == "runtime.NumGoroutine") = false := by kernel_rfl
theorem i12001_hJ (k : Nat) : ∀ C : Ctx, C.P = Try.prog → ∀ r, InlOk C (i12001_J k) r := fun C hC r => noInl_ok
theorem i12001_one (k : Nat) (C : Ctx) (hC : C.P = Try.prog) (r : R) : OneOk C 108 (inst (i12001_env k) (i12001_J k) (i12001_L k) Try.f108 [0, 1, 8, 9]) r := inst_ok hC (by kernel_rfl) (by kernel_rfl) (by kernel_rfl) (by kernel_rfl) (tbl_cons (impl_refunded.sound k) (tbl_cons (impl_liveSeats.sound k) (tbl_cons (bits_Len.sound k) (tbl_cons (cmp_Less_int64.sound k) tbl_nil)))) i12001_hf i12001_hb i12001_hn (i12001_fit k) (loops_all i12001_lps) (fun C hC => i12001_hJ k C hC r) (i12001_loops k)
theorem i9001_i1005_i4003_fit (k : Nat) : codeFit (i9001_i1005_i4003_env k) (codeOf Try.f116) = true := by kernel_rfl
theorem i9001_i1005_i4003_lps : (loopsIn (codeOf Try.f116)).map (fun d => findLoop (firstRegion d) (codeOf Try.f116)) = (loopsIn (codeOf Try.f116)).map some := by kernel_rfl
theorem i9001_i1005_i4003_hf : Try.prog.funcs[116]? = some Try.f116 := by kernel_rfl
theorem i9001_i1005_i4003_hb : Try.f116.body = some (codeOf Try.f116) := by kernel_rfl
theorem i9001_i1005_i4003_hn : (Try.f116.name == "runtime.NumGoroutine") = false := by kernel_rfl
theorem i9001_i1005_i4003_hJ (k : Nat) : ∀ C : Ctx, C.P = Try.prog → ∀ r, InlOk C (i9001_i1005_i4003_J k) r := fun C hC r => noInl_ok
theorem i9001_i1005_i4003_one (k : Nat) (C : Ctx) (hC : C.P = Try.prog) (r : R) : OneOk C 116 (inst (i9001_i1005_i4003_env k) (i9001_i1005_i4003_J k) (i9001_i1005_i4003_L k) Try.f116 []) r := inst_ok hC (by kernel_rfl) (by kernel_rfl) (by kernel_rfl) (by kernel_rfl) (tbl_cons (impl_refunded.sound k) (tbl_cons (impl_liveSeats.sound k) (tbl_cons (bits_Len.sound k) (tbl_cons (cmp_Less_int64.sound k) tbl_nil)))) i9001_i1005_i4003_hf i9001_i1005_i4003_hb i9001_i1005_i4003_hn (i9001_i1005_i4003_fit k) (loops_all i9001_i1005_i4003_lps) (fun C hC => i9001_i1005_i4003_hJ k C hC r) (i9001_i1005_i4003_loops k)
theorem i9001_i1005_fit (k : Nat) : codeFit (i9001_i1005_env k) (codeOf Try.f113) = true := by kernel_rfl
theorem i9001_i1005_lps : (loopsIn (codeOf Try.f113)).map (fun d => findLoop (firstRegion d) (codeOf Try.f113)) = (loopsIn (codeOf Try.f113)).map some := by kernel_rfl
theorem i9001_i1005_hf : Try.prog.funcs[113]? = some Try.f113 := by kernel_rfl
theorem i9001_i1005_hb : Try.f113.body = some (codeOf Try.f113) := by kernel_rfl
theorem i9001_i1005_hn : (Try.f113.name == "runtime.NumGoroutine") = false := by kernel_rfl
theorem i9001_i1005_hJ (k : Nat) : ∀ C : Ctx, C.P = Try.prog → ∀ r, InlOk C (i9001_i1005_J k) r := fun C hC r => (inlCons_ok (i9001_i1005_i4003_one k C hC r) noInl_ok)
theorem i9001_i1005_one (k : Nat) (C : Ctx) (hC : C.P = Try.prog) (r : R) : OneOk C 113 (inst (i9001_i1005_env k) (i9001_i1005_J k) (i9001_i1005_L k) Try.f113 []) r := inst_ok hC (by kernel_rfl) (by kernel_rfl) (by kernel_rfl) (by kernel_rfl) (tbl_cons (impl_refunded.sound k) (tbl_cons (impl_liveSeats.sound k) (tbl_cons (bits_Len.sound k) (tbl_cons (cmp_Less_int64.sound k) tbl_nil)))) i9001_i1005_hf i9001_i1005_hb i9001_i1005_hn (i9001_i1005_fit k) (loops_all i9001_i1005_lps) (fun C hC => i9001_i1005_hJ k C hC r) (i9001_i1005_loops k)
theorem i9001_fit (k : Nat) : codeFit (i9001_env k) (codeOf Try.f107) = true := by kernel_rfl
theorem i9001_lps : (loopsIn (codeOf Try.f107)).map (fun d => findLoop (firstRegion d) (codeOf Try.f107)) = (loopsIn (codeOf Try.f107)).map some := by kernel_rfl
theorem i9001_hf : Try.prog.funcs[107]? = some Try.f107 := by kernel_rfl
theorem i9001_hb : Try.f107.body = some (codeOf Try.f107) := by kernel_rfl
theorem i9001_hn : (Try.f107.name == "runtime.NumGoroutine") = false := by kernel_rfl
theorem i9001_hJ (k : Nat) : ∀ C : Ctx, C.P = Try.prog → ∀ r, InlOk C (i9001_J k) r := fun C hC r => (inlCons_ok (i9001_i1005_one k C hC r) noInl_ok)
theorem i9001_one (k : Nat) (C : Ctx) (hC : C.P = Try.prog) (r : R) : OneOk C 107 (inst (i9001_env k) (i9001_J k) (i9001_L k) Try.f107 [0, 1, 5]) r := inst_ok hC (by kernel_rfl) (by kernel_rfl) (by kernel_rfl) (by kernel_rfl) (tbl_cons (impl_refunded.sound k) (tbl_cons (impl_liveSeats.sound k) (tbl_cons (bits_Len.sound k) (tbl_cons (cmp_Less_int64.sound k) tbl_nil)))) i9001_hf i9001_hb i9001_hn (i9001_fit k) (loops_all i9001_lps) (fun C hC => i9001_hJ k C hC r) (i9001_loops k)
theorem fit (k : Nat) : codeFit (env k) (codeOf Try.f82) = true := by kernel_rfl
theorem lps : (loopsIn (codeOf Try.f82)).map (fun d => findLoop (firstRegion d) (codeOf Try.f82)) = (loopsIn (codeOf Try.f82)).map some := by kernel_rfl
theorem hf : Try.prog.funcs[82]? = some Try.f82 := by kernel_rfl
theorem hb : Try.f82.body = some (codeOf Try.f82) := by kernel_rfl
theorem hn : (Try.f82.name == "runtime.NumGoroutine") = false := by kernel_rfl
theorem hJ (k : Nat) : ∀ C : Ctx, C.P = Try.prog → ∀ r, InlOk C (J k) r := fun C hC r => (inlCons_ok (i9001_one k C hC r) (inlCons_ok (i12001_one k C hC r) noInl_ok))
theorem sound (k : Nat) : Sound Try.prog 82 (entry k) := func_sound (E := env k) (by kernel_rfl) (by kernel_rfl) (by kernel_rfl) (by kernel_rfl) (tbl_cons (impl_refunded.sound k) (tbl_cons (impl_liveSeats.sound k) (tbl_cons (bits_Len.sound k) (tbl_cons (cmp_Less_int64.sound k) tbl_nil)))) hf hb hn (fit k) (loops_all lps) (hJ k) (loops k) (eq k)
end impl_potsOf

namespace impl_SettleHand
def entry (k : Nat) : Entry := ⟨[.ro (.sl 2 (.int .i64)), .ro (.sl 4 .bool), .ro (.sl 2 (.int .i64)), .ro (.sl 2 (.int .i64)), .ro (.int .i64)], [.own (.sl 2 (.int .i64)), .own (.int .i64)], fun (a0, (a1, (a2, (a3, (a4, _))))) => f k a0 a1 a2 a3 a4⟩
def tbl (k : Nat) : List (Nat × Option Entry) := [(59, some (impl_within.entry k)), (76, some (impl_areValues.entry k)), (77, some (impl_awarded.entry k)), (81, some (impl_ArePayments.entry k)), (82, some (impl_potsOf.entry k)), (83, some (impl_uncalledOf.entry k))]
abbrev R := Res [.own (.sl 2 (.int .i64)), .own (.int .i64)] × Outs [.ro (.sl 2 (.int .i64)), .ro (.sl 4 .bool), .ro (.sl 2 (.int .i64)), .ro (.sl 2 (.int .i64)), .ro (.int .i64)]
def env (k : Nat) : Env := ⟨Try.prog, 69, AM.look none (tbl k), AM.look none []⟩
def L (k : Nat) (q : Nat) (s : St) (K : AExit → St → Option R) : Option R := none
def J (k : Nat) : Inl R := noInl
theorem eq (k : Nat) : ∀ a, aexec (env k) (J k) (L k) (codeOf Try.f45) (begSt [.ro (.sl 2 (.int .i64)), .ro (.sl 4 .bool), .ro (.sl 2 (.int .i64)), .ro (.sl 2 (.int .i64)), .ro (.int .i64)] a) (finK (env k) Try.f45 [.ro (.sl 2 (.int .i64)), .ro (.sl 4 .bool), .ro (.sl 2 (.int .i64)), .ro (.sl 2 (.int .i64)), .ro (.int .i64)] [.own (.sl 2 (.int .i64)), .own (.int .i64)]) = (entry k).fn a := by intro a; kernel_rfl
theorem loops (k : Nat) : LoopsOk (env k) (J k) (L k) (codeOf Try.f45) := by
  intro c an hc han s K r h
  unfold L at h
  cases h
theorem fit (k : Nat) : codeFit (env k) (codeOf Try.f45) = true := by kernel_rfl
theorem lps : (loopsIn (codeOf Try.f45)).map (fun d => findLoop (firstRegion d) (codeOf Try.f45)) = (loopsIn (codeOf Try.f45)).map some := by kernel_rfl
theorem hf : Try.prog.funcs[45]? = some Try.f45 := by kernel_rfl
theorem hb : Try.f45.body = some (codeOf Try.f45) := by kernel_rfl
theorem hn : (Try.f45.name == "runtime.NumGoroutine") = false := by kernel_rfl
theorem hJ (k : Nat) : ∀ C : Ctx, C.P = Try.prog → ∀ r, InlOk C (J k) r := fun C hC r => noInl_ok
theorem sound (k : Nat) : Sound Try.prog 45 (entry k) := func_sound (E := env k) (by kernel_rfl) (by kernel_rfl) (by kernel_rfl) (by kernel_rfl) (tbl_cons (impl_within.sound k) (tbl_cons (impl_areValues.sound k) (tbl_cons (impl_awarded.sound k) (tbl_cons (impl_ArePayments.sound k) (tbl_cons (impl_potsOf.sound k) (tbl_cons (impl_uncalledOf.sound k) tbl_nil)))))) hf hb hn (fit k) (loops_all lps) (hJ k) (loops k) (eq k)
end impl_SettleHand

namespace spec_l01Next
def entry (k : Nat) : Entry := ⟨[.ptr (.pair (.sl 5 (.int .u8)) (.pair (.int .i64) (.pair (.int .i64) .unit))), .ro (.int .i64)], [.own (.int .i64)], fun (a0, (a1, _)) => f k a0 a1⟩
def tbl (k : Nat) : List (Nat × Option Entry) := []
abbrev R := Res [.own (.int .i64)] × Outs [.ptr (.pair (.sl 5 (.int .u8)) (.pair (.int .i64) (.pair (.int .i64) .unit))), .ro (.int .i64)]
def env (k : Nat) : Env := ⟨Try.prog, 78, AM.look none (tbl k), AM.look none []⟩
def L (k : Nat) (q : Nat) (s : St) (K : AExit → St → Option R) : Option R := none
def J (k : Nat) : Inl R := noInl
theorem eq (k : Nat) : ∀ a, aexec (env k) (J k) (L k) (codeOf Try.f72) (begSt [.ptr (.pair (.sl 5 (.int .u8)) (.pair (.int .i64) (.pair (.int .i64) .unit))), .ro (.int .i64)] a) (finK (env k) Try.f72 [.ptr (.pair (.sl 5 (.int .u8)) (.pair (.int .i64) (.pair (.int .i64) .unit))), .ro (.int .i64)] [.own (.int .i64)]) = (entry k).fn a := by intro a; kernel_rfl
theorem loops (k : Nat) : LoopsOk (env k) (J k) (L k) (codeOf Try.f72) := by
  intro c an hc han s K r h
  unfold L at h
  cases h
theorem fit (k : Nat) : codeFit (env k) (codeOf Try.f72) = true := by kernel_rfl
theorem lps : (loopsIn (codeOf Try.f72)).map (fun d => findLoop (firstRegion d) (codeOf Try.f72)) = (loopsIn (codeOf Try.f72)).map some := by kernel_rfl
theorem hf : Try.prog.funcs[72]? = some Try.f72 := by kernel_rfl
theorem hb : Try.f72.body = some (codeOf Try.f72) := by kernel_rfl
theorem hn : (Try.f72.name == "runtime.NumGoroutine") = false := by kernel_rfl
theorem hJ (k : Nat) : ∀ C : Ctx, C.P = Try.prog → ∀ r, InlOk C (J k) r := fun C hC r => noInl_ok
theorem sound (k : Nat) : Sound Try.prog 72 (entry k) := func_sound (E := env k) (by kernel_rfl) (by kernel_rfl) (by kernel_rfl) (by kernel_rfl) tbl_nil hf hb hn (fit k) (loops_all lps) (hJ k) (loops k) (eq k)
end spec_l01Next

namespace spec_l13DrawValues
def entry (k : Nat) : Entry := ⟨[.ptr (.pair (.sl 5 (.int .u8)) (.pair (.int .i64) (.pair (.int .i64) .unit))), .ro (.int .i64)], [.own (.sl 2 (.int .i64))], fun (a0, (a1, _)) => f k a0 a1⟩
def tbl (k : Nat) : List (Nat × Option Entry) := [(72, some (spec_l01Next.entry k))]
abbrev R := Res [.own (.sl 2 (.int .i64))] × Outs [.ptr (.pair (.sl 5 (.int .u8)) (.pair (.int .i64) (.pair (.int .i64) .unit))), .ro (.int .i64)]
def env (k : Nat) : Env := ⟨Try.prog, 34, AM.look none (tbl k), AM.look none [(3, some ⟨[(0, .asis), (1, .asis), (5, .asis), (6, .asis)], [(0, .asis), (5, .asis)]⟩)]⟩
def sh3 : Shape := ⟨[(0, .pc 0 0), (1, .val (.int .i64)), (5, .ref 1), (6, .val (.int .i64))], [(0, .cell [.val (.sl 5 (.int .u8)), .val (.int .i64), .val (.int .i64)]), (1, .row 2 (.int .i64))], 2, [0]⟩
def osh3kx0 : Shape := ⟨[(0, .pc 0 0), (5, .ref 1)], [(0, .cell [.val (.sl 5 (.int .u8)), .val (.int .i64), .val (.int .i64)]), (1, .row 2 (.int .i64))], 2, [0]⟩
def un3 : Int × Int × (List Int) × Int × Int × (List Int) → sh3.V := fun (x1, x6, z0_0, z0_1, z0_2, y1) => (((), (x1, ((), (x6, ())))), ((z0_0, (z0_1, (z0_2, ()))), (y1, ())))
def fl3 : sh3.V → Int × Int × (List Int) × Int × Int × (List Int) := fun ((_, (x1, (_, (x6, _)))), ((z0_0, (z0_1, (z0_2, _))), (y1, _))) => (x1, x6, z0_0, z0_1, z0_2, y1)
def L (k : Nat) (q : Nat) (s : St) (K : AExit → St → Option R) : Option R := bif Nat.beq q 3 then (match sh3.dec s with | some v => l3 (R := R) k k (fl3 v) (fun (z0_0, z0_1, z0_2, y1) => K (.exit 0) (osh3kx0.enc (((), ((), ())), ((z0_0, (z0_1, (z0_2, ()))), (y1, ()))))) | none => none) else (none)
def J (k : Nat) : Inl R := noInl
theorem step3 (k n : Nat) (K : AExit → St → Option R) : ∀ v, aloop (aexec (env k) (J k) (L k) ((findLoop 3 (codeOf Try.f74)).getD .skip)) (normSt [(0, .asis), (1, .asis), (5, .asis), (6, .asis)]) (normSt [(0, .asis), (5, .asis)]) K (n + 1) (sh3.enc (un3 v)) = s3 (R := R) k (fun w => aloop (aexec (env k) (J k) (L k) ((findLoop 3 (codeOf Try.f74)).getD .skip)) (normSt [(0, .asis), (1, .asis), (5, .asis), (6, .asis)]) (normSt [(0, .asis), (5, .asis)]) K n (sh3.enc (un3 w))) (fun (z0_0, z0_1, z0_2, y1) => K (.exit 0) (osh3kx0.enc (((), ((), ())), ((z0_0, (z0_1, (z0_2, ()))), (y1, ()))))) v := by intro v; kernel_rfl
theorem eq (k : Nat) : ∀ a, aexec (env k) (J k) (L k) (codeOf Try.f74) (begSt [.ptr (.pair (.sl 5 (.int .u8)) (.pair (.int .i64) (.pair (.int .i64) .unit))), .ro (.int .i64)] a) (finK (env k) Try.f74 [.ptr (.pair (.sl 5 (.int .u8)) (.pair (.int .i64) (.pair (.int .i64) .unit))), .ro (.int .i64)] [.own (.sl 2 (.int .i64))]) = (entry k).fn a := by intro a; kernel_rfl
theorem run3 (k : Nat) (K : AExit → St → Option R) : ∀ n v, aloop (aexec (env k) (J k) (L k) ((findLoop 3 (codeOf Try.f74)).getD .skip)) (normSt [(0, .asis), (1, .asis), (5, .asis), (6, .asis)]) (normSt [(0, .asis), (5, .asis)]) K n (sh3.enc (un3 v)) = l3 (R := R) k n v (fun (z0_0, z0_1, z0_2, y1) => K (.exit 0) (osh3kx0.enc (((), ((), ())), ((z0_0, (z0_1, (z0_2, ()))), (y1, ()))))) := loop_eq (fun n v => aloop (aexec (env k) (J k) (L k) ((findLoop 3 (codeOf Try.f74)).getD .skip)) (normSt [(0, .asis), (1, .asis), (5, .asis), (6, .asis)]) (normSt [(0, .asis), (5, .asis)]) K n (sh3.enc (un3 v))) (fun n v => l3 (R := R) k n v (fun (z0_0, z0_1, z0_2, y1) => K (.exit 0) (osh3kx0.enc (((), ((), ())), ((z0_0, (z0_1, (z0_2, ()))), (y1, ())))))) (fun X v => s3 (R := R) k X (fun (z0_0, z0_1, z0_2, y1) => K (.exit 0) (osh3kx0.enc (((), ((), ())), ((z0_0, (z0_1, (z0_2, ()))), (y1, ()))))) v) (fun _ => rfl) (fun n v => step3 k n K v) (fun n v => rfl)
theorem loops (k : Nat) : LoopsOk (env k) (J k) (L k) (codeOf Try.f74) := by
  intro c an hc han s K r h
  unfold L at h
  by_cases q3 : firstRegion c = 3
  · have h1 := key_eq q3 h
    rw [q3] at hc han
    have e2 : an = ⟨[(0, .asis), (1, .asis), (5, .asis), (6, .asis)], [(0, .asis), (5, .asis)]⟩ := (Option.some.inj (show some _ = some an from han)).symm
    have e1 : c = (findLoop 3 (codeOf Try.f74)).getD .skip := by rw [hc]; rfl
    cases hd : sh3.dec s with
    | none => rw [hd] at h1; cases h1
    | some v =>
      rw [hd] at h1
      refine ⟨k, ?_⟩
      rw [e1, e2, Shape.dec_enc _ _ _ hd]
      exact (run3 k K k (fl3 v)).trans h1
  have h := not_key q3 h
  cases h
theorem fit (k : Nat) : codeFit (env k) (codeOf Try.f74) = true := by kernel_rfl
theorem lps : (loopsIn (codeOf Try.f74)).map (fun d => findLoop (firstRegion d) (codeOf Try.f74)) = (loopsIn (codeOf Try.f74)).map some := by kernel_rfl
theorem hf : Try.prog.funcs[74]? = some Try.f74 := by kernel_rfl
theorem hb : Try.f74.body = some (codeOf Try.f74) := by kernel_rfl
theorem hn : (Try.f74.name == "runtime.NumGoroutine") = false := by kernel_rfl
theorem hJ (k : Nat) : ∀ C : Ctx, C.P = Try.prog → ∀ r, InlOk C (J k) r := fun C hC r => noInl_ok
theorem sound (k : Nat) : Sound Try.prog 74 (entry k) := func_sound (E := env k) (by kernel_rfl) (by kernel_rfl) (by kernel_rfl) (by kernel_rfl) (tbl_cons (spec_l01Next.sound k) tbl_nil) hf hb hn (fit k) (loops_all lps) (hJ k) (loops k) (eq k)
end spec_l13DrawValues

namespace spec_l01Pick
def entry (k : Nat) : Entry := ⟨[.ptr (.pair (.sl 5 (.int .u8)) (.pair (.int .i64) (.pair (.int .i64) .unit))), .ro (.sl 2 (.int .i64))], [.own (.int .i64)], fun (a0, (a1, _)) => f k a0 a1⟩
def tbl (k : Nat) : List (Nat × Option Entry) := [(72, some (spec_l01Next.entry k))]
abbrev R := Res [.own (.int .i64)] × Outs [.ptr (.pair (.sl 5 (.int .u8)) (.pair (.int .i64) (.pair (.int .i64) .unit))), .ro (.sl 2 (.int .i64))]
def env (k : Nat) : Env := ⟨Try.prog, 12, AM.look none (tbl k), AM.look none []⟩
def L (k : Nat) (q : Nat) (s : St) (K : AExit → St → Option R) : Option R := none
def J (k : Nat) : Inl R := noInl
theorem eq (k : Nat) : ∀ a, aexec (env k) (J k) (L k) (codeOf Try.f71) (begSt [.ptr (.pair (.sl 5 (.int .u8)) (.pair (.int .i64) (.pair (.int .i64) .unit))), .ro (.sl 2 (.int .i64))] a) (finK (env k) Try.f71 [.ptr (.pair (.sl 5 (.int .u8)) (.pair (.int .i64) (.pair (.int .i64) .unit))), .ro (.sl 2 (.int .i64))] [.own (.int .i64)]) = (entry k).fn a := by intro a; kernel_rfl
theorem loops (k : Nat) : LoopsOk (env k) (J k) (L k) (codeOf Try.f71) := by
  intro c an hc han s K r h
  unfold L at h
  cases h
theorem fit (k : Nat) : codeFit (env k) (codeOf Try.f71) = true := by kernel_rfl
theorem lps : (loopsIn (codeOf Try.f71)).map (fun d => findLoop (firstRegion d) (codeOf Try.f71)) = (loopsIn (codeOf Try.f71)).map some := by kernel_rfl
theorem hf : Try.prog.funcs[71]? = some Try.f71 := by kernel_rfl
theorem hb : Try.f71.body = some (codeOf Try.f71) := by kernel_rfl
theorem hn : (Try.f71.name == "runtime.NumGoroutine") = false := by kernel_rfl
theorem hJ (k : Nat) : ∀ C : Ctx, C.P = Try.prog → ∀ r, InlOk C (J k) r := fun C hC r => noInl_ok
theorem sound (k : Nat) : Sound Try.prog 71 (entry k) := func_sound (E := env k) (by kernel_rfl) (by kernel_rfl) (by kernel_rfl) (by kernel_rfl) (tbl_cons (spec_l01Next.sound k) tbl_nil) hf hb hn (fit k) (loops_all lps) (hJ k) (loops k) (eq k)
end spec_l01Pick

namespace spec_l12Draw
def entry (k : Nat) : Entry := ⟨[.ptr (.pair (.sl 5 (.int .u8)) (.pair (.int .i64) (.pair (.int .i64) .unit)))], [.stb (.sl 2 (.int .i64)), .own (.sl 4 .bool)], fun (a0, _) => f k a0⟩
def tbl (k : Nat) : List (Nat × Option Entry) := [(71, some (spec_l01Pick.entry k)), (72, some (spec_l01Next.entry k))]
abbrev R := Res [.stb (.sl 2 (.int .i64)), .own (.sl 4 .bool)] × Outs [.ptr (.pair (.sl 5 (.int .u8)) (.pair (.int .i64) (.pair (.int .i64) .unit)))]
def env (k : Nat) : Env := ⟨Try.prog, 81, AM.look none (tbl k), AM.look none [(4, some ⟨[(0, .asis), (4, .asis), (5, .asis), (6, .asis), (7, .asis)], [(0, .asis), (5, .asis), (6, .asis)]⟩), (15, some ⟨[(5, .asis), (6, .asis), (8, .asis)], [(5, .asis), (6, .asis)]⟩), (22, some ⟨[(5, .asis), (6, .asis), (9, .asis)], [(5, .asis), (6, .asis)]⟩)]⟩
def sh4 : Shape := ⟨[(0, .pc 0 0), (4, .val (.int .i64)), (5, .ref 1), (6, .ref 2), (7, .val (.int .i64))], [(0, .cell [.val (.sl 5 (.int .u8)), .val (.int .i64), .val (.int .i64)]), (1, .row 2 (.int .i64)), (2, .row 4 .bool)], 3, [0]⟩
def osh4kx0 : Shape := ⟨[(0, .pc 0 0), (5, .ref 1), (6, .ref 2)], [(0, .cell [.val (.sl 5 (.int .u8)), .val (.int .i64), .val (.int .i64)]), (1, .row 2 (.int .i64)), (2, .row 4 .bool)], 3, [0]⟩
def un4 : Int × Int × (List Int) × Int × Int × (List Int) × (List Bool) → sh4.V := fun (x4, x7, z0_0, z0_1, z0_2, y1, y2) => (((), (x4, ((), ((), (x7, ()))))), ((z0_0, (z0_1, (z0_2, ()))), (y1, (y2, ()))))
def fl4 : sh4.V → Int × Int × (List Int) × Int × Int × (List Int) × (List Bool) := fun ((_, (x4, (_, (_, (x7, _))))), ((z0_0, (z0_1, (z0_2, _))), (y1, (y2, _)))) => (x4, x7, z0_0, z0_1, z0_2, y1, y2)
def sh15 : Shape := ⟨[(5, .ref 1), (6, .ref 2), (8, .val (.int .i64))], [(0, .cell [.val (.sl 5 (.int .u8)), .val (.int .i64), .val (.int .i64)]), (1, .row 2 (.int .i64)), (2, .row 4 .bool)], 3, [0]⟩
def osh15kx3 : Shape := ⟨[(5, .ref 1), (6, .ref 2)], [(0, .cell [.val (.sl 5 (.int .u8)), .val (.int .i64), .val (.int .i64)]), (1, .row 2 (.int .i64)), (2, .row 4 .bool)], 3, [0]⟩
def un15 : Int × (List Int) × Int × Int × (List Int) × (List Bool) → sh15.V := fun (x8, z0_0, z0_1, z0_2, y1, y2) => (((), ((), (x8, ()))), ((z0_0, (z0_1, (z0_2, ()))), (y1, (y2, ()))))
def fl15 : sh15.V → Int × (List Int) × Int × Int × (List Int) × (List Bool) := fun ((_, (_, (x8, _))), ((z0_0, (z0_1, (z0_2, _))), (y1, (y2, _)))) => (x8, z0_0, z0_1, z0_2, y1, y2)
def sh22 : Shape := ⟨[(5, .ref 1), (6, .ref 2), (9, .val (.int .i64))], [(0, .cell [.val (.sl 5 (.int .u8)), .val (.int .i64), .val (.int .i64)]), (1, .row 2 (.int .i64)), (2, .row 4 .bool)], 3, [0]⟩
def osh22kx5 : Shape := ⟨[(5, .ref 1), (6, .ref 2)], [(0, .cell [.val (.sl 5 (.int .u8)), .val (.int .i64), .val (.int .i64)]), (1, .row 2 (.int .i64)), (2, .row 4 .bool)], 3, [0]⟩
def un22 : Int × (List Int) × Int × Int × (List Int) × (List Bool) → sh22.V := fun (x9, z0_0, z0_1, z0_2, y1, y2) => (((), ((), (x9, ()))), ((z0_0, (z0_1, (z0_2, ()))), (y1, (y2, ()))))
def fl22 : sh22.V → Int × (List Int) × Int × Int × (List Int) × (List Bool) := fun ((_, (_, (x9, _))), ((z0_0, (z0_1, (z0_2, _))), (y1, (y2, _)))) => (x9, z0_0, z0_1, z0_2, y1, y2)
def L (k : Nat) (q : Nat) (s : St) (K : AExit → St → Option R) : Option R := bif Nat.beq q 4 then (match sh4.dec s with | some v => l4 (R := R) k k (fl4 v) (fun (z0_0, z0_1, z0_2, y1, y2) => K (.exit 0) (osh4kx0.enc (((), ((), ((), ()))), ((z0_0, (z0_1, (z0_2, ()))), (y1, (y2, ())))))) | none => none) else (bif Nat.beq q 15 then (match sh15.dec s with | some v => l15 (R := R) k k (fl15 v) (fun (z0_0, z0_1, z0_2, y1, y2) => K (.exit 3) (osh15kx3.enc (((), ((), ())), ((z0_0, (z0_1, (z0_2, ()))), (y1, (y2, ())))))) | none => none) else (bif Nat.beq q 22 then (match sh22.dec s with | some v => l22 (R := R) k k (fl22 v) (fun (z0_0, z0_1, z0_2, y1, y2) => K (.exit 5) (osh22kx5.enc (((), ((), ())), ((z0_0, (z0_1, (z0_2, ()))), (y1, (y2, ())))))) | none => none) else (none)))
def J (k : Nat) : Inl R := noInl
theorem step4 (k n : Nat) (K : AExit → St → Option R) : ∀ v, aloop (aexec (env k) (J k) (L k) ((findLoop 4 (codeOf Try.f84)).getD .skip)) (normSt [(0, .asis), (4, .asis), (5, .asis), (6, .asis), (7, .asis)]) (normSt [(0, .asis), (5, .asis), (6, .asis)]) K (n + 1) (sh4.enc (un4 v)) = s4 (R := R) k (fun w => aloop (aexec (env k) (J k) (L k) ((findLoop 4 (codeOf Try.f84)).getD .skip)) (normSt [(0, .asis), (4, .asis), (5, .asis), (6, .asis), (7, .asis)]) (normSt [(0, .asis), (5, .asis), (6, .asis)]) K n (sh4.enc (un4 w))) (fun (z0_0, z0_1, z0_2, y1, y2) => K (.exit 0) (osh4kx0.enc (((), ((), ((), ()))), ((z0_0, (z0_1, (z0_2, ()))), (y1, (y2, ())))))) v := by intro v; kernel_rfl
theorem step15 (k n : Nat) (K : AExit → St → Option R) : ∀ v, aloop (aexec (env k) (J k) (L k) ((findLoop 15 (codeOf Try.f84)).getD .skip)) (normSt [(5, .asis), (6, .asis), (8, .asis)]) (normSt [(5, .asis), (6, .asis)]) K (n + 1) (sh15.enc (un15 v)) = s15 (R := R) k (fun w => aloop (aexec (env k) (J k) (L k) ((findLoop 15 (codeOf Try.f84)).getD .skip)) (normSt [(5, .asis), (6, .asis), (8, .asis)]) (normSt [(5, .asis), (6, .asis)]) K n (sh15.enc (un15 w))) (fun (z0_0, z0_1, z0_2, y1, y2) => K (.exit 3) (osh15kx3.enc (((), ((), ())), ((z0_0, (z0_1, (z0_2, ()))), (y1, (y2, ())))))) v := by intro v; kernel_rfl
theorem step22 (k n : Nat) (K : AExit → St → Option R) : ∀ v, aloop (aexec (env k) (J k) (L k) ((findLoop 22 (codeOf Try.f84)).getD .skip)) (normSt [(5, .asis), (6, .asis), (9, .asis)]) (normSt [(5, .asis), (6, .asis)]) K (n + 1) (sh22.enc (un22 v)) = s22 (R := R) k (fun w => aloop (aexec (env k) (J k) (L k) ((findLoop 22 (codeOf Try.f84)).getD .skip)) (normSt [(5, .asis), (6, .asis), (9, .asis)]) (normSt [(5, .asis), (6, .asis)]) K n (sh22.enc (un22 w))) (fun (z0_0, z0_1, z0_2, y1, y2) => K (.exit 5) (osh22kx5.enc (((), ((), ())), ((z0_0, (z0_1, (z0_2, ()))), (y1, (y2, ())))))) v := by intro v; kernel_rfl
theorem eq (k : Nat) : ∀ a, aexec (env k) (J k) (L k) (codeOf Try.f84) (begSt [.ptr (.pair (.sl 5 (.int .u8)) (.pair (.int .i64) (.pair (.int .i64) .unit)))] a) (finK (env k) Try.f84 [.ptr (.pair (.sl 5 (.int .u8)) (.pair (.int .i64) (.pair (.int .i64) .unit)))] [.stb (.sl 2 (.int .i64)), .own (.sl 4 .bool)]) = (entry k).fn a := by intro a; kernel_rfl
theorem run4 (k : Nat) (K : AExit → St → Option R) : ∀ n v, aloop (aexec (env k) (J k) (L k) ((findLoop 4 (codeOf Try.f84)).getD .skip)) (normSt [(0, .asis), (4, .asis), (5, .asis), (6, .asis), (7, .asis)]) (normSt [(0, .asis), (5, .asis), (6, .asis)]) K n (sh4.enc (un4 v)) = l4 (R := R) k n v (fun (z0_0, z0_1, z0_2, y1, y2) => K (.exit 0) (osh4kx0.enc (((), ((), ((), ()))), ((z0_0, (z0_1, (z0_2, ()))), (y1, (y2, ())))))) := loop_eq (fun n v => aloop (aexec (env k) (J k) (L k) ((findLoop 4 (codeOf Try.f84)).getD .skip)) (normSt [(0, .asis), (4, .asis), (5, .asis), (6, .asis), (7, .asis)]) (normSt [(0, .asis), (5, .asis), (6, .asis)]) K n (sh4.enc (un4 v))) (fun n v => l4 (R := R) k n v (fun (z0_0, z0_1, z0_2, y1, y2) => K (.exit 0) (osh4kx0.enc (((), ((), ((), ()))), ((z0_0, (z0_1, (z0_2, ()))), (y1, (y2, ()))))))) (fun X v => s4 (R := R) k X (fun (z0_0, z0_1, z0_2, y1, y2) => K (.exit 0) (osh4kx0.enc (((), ((), ((), ()))), ((z0_0, (z0_1, (z0_2, ()))), (y1, (y2, ())))))) v) (fun _ => rfl) (fun n v => step4 k n K v) (fun n v => rfl)
theorem run15 (k : Nat) (K : AExit → St → Option R) : ∀ n v, aloop (aexec (env k) (J k) (L k) ((findLoop 15 (codeOf Try.f84)).getD .skip)) (normSt [(5, .asis), (6, .asis), (8, .asis)]) (normSt [(5, .asis), (6, .asis)]) K n (sh15.enc (un15 v)) = l15 (R := R) k n v (fun (z0_0, z0_1, z0_2, y1, y2) => K (.exit 3) (osh15kx3.enc (((), ((), ())), ((z0_0, (z0_1, (z0_2, ()))), (y1, (y2, ())))))) := loop_eq (fun n v => aloop (aexec (env k) (J k) (L k) ((findLoop 15 (codeOf Try.f84)).getD .skip)) (normSt [(5, .asis), (6, .asis), (8, .asis)]) (normSt [(5, .asis), (6, .asis)]) K n (sh15.enc (un15 v))) (fun n v => l15 (R := R) k n v (fun (z0_0, z0_1, z0_2, y1, y2) => K (.exit 3) (osh15kx3.enc (((), ((), ())), ((z0_0, (z0_1, (z0_2, ()))), (y1, (y2, ()))))))) (fun X v => s15 (R := R) k X (fun (z0_0, z0_1, z0_2, y1, y2) => K (.exit 3) (osh15kx3.enc (((), ((), ())), ((z0_0, (z0_1, (z0_2, ()))), (y1, (y2, ())))))) v) (fun _ => rfl) (fun n v => step15 k n K v) (fun n v => rfl)
theorem run22 (k : Nat) (K : AExit → St → Option R) : ∀ n v, aloop (aexec (env k) (J k) (L k) ((findLoop 22 (codeOf Try.f84)).getD .skip)) (normSt [(5, .asis), (6, .asis), (9, .asis)]) (normSt [(5, .asis), (6, .asis)]) K n (sh22.enc (un22 v)) = l22 (R := R) k n v (fun (z0_0, z0_1, z0_2, y1, y2) => K (.exit 5) (osh22kx5.enc (((), ((), ())), ((z0_0, (z0_1, (z0_2, ()))), (y1, (y2, ())))))) := loop_eq (fun n v => aloop (aexec (env k) (J k) (L k) ((findLoop 22 (codeOf Try.f84)).getD .skip)) (normSt [(5, .asis), (6, .asis), (9, .asis)]) (normSt [(5, .asis), (6, .asis)]) K n (sh22.enc (un22 v))) (fun n v => l22 (R := R) k n v (fun (z0_0, z0_1, z0_2, y1, y2) => K (.exit 5) (osh22kx5.enc (((), ((), ())), ((z0_0, (z0_1, (z0_2, ()))), (y1, (y2, ()))))))) (fun X v => s22 (R := R) k X (fun (z0_0, z0_1, z0_2, y1, y2) => K (.exit 5) (osh22kx5.enc (((), ((), ())), ((z0_0, (z0_1, (z0_2, ()))), (y1, (y2, ())))))) v) (fun _ => rfl) (fun n v => step22 k n K v) (fun n v => rfl)
theorem loops (k : Nat) : LoopsOk (env k) (J k) (L k) (codeOf Try.f84) := by
  intro c an hc han s K r h
  unfold L at h
  by_cases q4 : firstRegion c = 4
  · have h1 := key_eq q4 h
    rw [q4] at hc han
    have e2 : an = ⟨[(0, .asis), (4, .asis), (5, .asis), (6, .asis), (7, .asis)], [(0, .asis), (5, .asis), (6, .asis)]⟩ := (Option.some.inj (show some _ = some an from han)).symm
    have e1 : c = (findLoop 4 (codeOf Try.f84)).getD .skip := by rw [hc]; rfl
    cases hd : sh4.dec s with
    | none => rw [hd] at h1; cases h1
    | some v =>
      rw [hd] at h1
      refine ⟨k, ?_⟩
      rw [e1, e2, Shape.dec_enc _ _ _ hd]
      exact (run4 k K k (fl4 v)).trans h1
  have h := not_key q4 h
  by_cases q15 : firstRegion c = 15
  · have h1 := key_eq q15 h
    rw [q15] at hc han
    have e2 : an = ⟨[(5, .asis), (6, .asis), (8, .asis)], [(5, .asis), (6, .asis)]⟩ := (Option.some.inj (show some _ = some an from han)).symm
    have e1 : c = (findLoop 15 (codeOf Try.f84)).getD .skip := by rw [hc]; rfl
    cases hd : sh15.dec s with
    | none => rw [hd] at h1; cases h1
    | some v =>
      rw [hd] at h1
      refine ⟨k, ?_⟩
      rw [e1, e2, Shape.dec_enc _ _ _ hd]
      exact (run15 k K k (fl15 v)).trans h1
  have h := not_key q15 h
  by_cases q22 : firstRegion c = 22
  · have h1 := key_eq q22 h
    rw [q22] at hc han
    have e2 : an = ⟨[(5, .asis), (6, .asis), (9, .asis)], [(5, .asis), (6, .asis)]⟩ := (Option.some.inj (show some _ = some an from han)).symm
    have e1 : c = (findLoop 22 (codeOf Try.f84)).getD .skip := by rw [hc]; rfl
    cases hd : sh22.dec s with
    | none => rw [hd] at h1; cases h1
    | some v =>
      rw [hd] at h1
      refine ⟨k, ?_⟩
      rw [e1, e2, Shape.dec_enc _ _ _ hd]
      exact (run22 k K k (fl22 v)).trans h1
  have h := not_key q22 h
  cases h
theorem fit (k : Nat) : codeFit (env k) (codeOf Try.f84) = true := by kernel_rfl
theorem lps : (loopsIn (codeOf Try.f84)).map (fun d => findLoop (firstRegion d) (codeOf Try.f84)) = (loopsIn (codeOf Try.f84)).map some := by kernel_rfl
theorem hf : Try.prog.funcs[84]? = some Try.f84 := by kernel_rfl
theorem hb : Try.f84.body = some (codeOf Try.f84) := by kernel_rfl
theorem hn : (Try.f84.name == "runtime.NumGoroutine") = false := by kernel_rfl
theorem hJ (k : Nat) : ∀ C : Ctx, C.P = Try.prog → ∀ r, InlOk C (J k) r := fun C hC r => noInl_ok
theorem sound (k : Nat) : Sound Try.prog 84 (entry k) := func_sound (E := env k) (by kernel_rfl) (by kernel_rfl) (by kernel_rfl) (by kernel_rfl) (tbl_cons (spec_l01Pick.sound k) (tbl_cons (spec_l01Next.sound k) tbl_nil)) hf hb hn (fit k) (loops_all lps) (hJ k) (loops k) (eq k)
end spec_l12Draw

namespace spec_DrawSettleHand
def entry (k : Nat) : Entry := ⟨[.ro (.sl 5 (.int .u8))], [.stb (.sl 2 (.int .i64)), .own (.sl 4 .bool), .own (.sl 2 (.int .i64)), .own (.sl 2 (.int .i64)), .own (.int .i64)], fun (a0, _) => f k a0⟩
def tbl (k : Nat) : List (Nat × Option Entry) := [(72, some (spec_l01Next.entry k)), (74, some (spec_l13DrawValues.entry k)), (84, some (spec_l12Draw.entry k))]
abbrev R := Res [.stb (.sl 2 (.int .i64)), .own (.sl 4 .bool), .own (.sl 2 (.int .i64)), .own (.sl 2 (.int .i64)), .own (.int .i64)] × Outs [.ro (.sl 5 (.int .u8))]
def env (k : Nat) : Env := ⟨Try.prog, 35, AM.look none (tbl k), AM.look none []⟩
def L (k : Nat) (q : Nat) (s : St) (K : AExit → St → Option R) : Option R := none
def i1001_env (k : Nat) : Env := ⟨Try.prog, 34, AM.look none (tbl k), AM.look none [(3, some ⟨[(0, .asis), (3, .asis), (4, .asis)], [(3, .asis)]⟩)]⟩
def shi1001_3 : Shape := ⟨[(0, .val (.sl 5 (.int .u8))), (3, .pc 0 0), (4, .val (.int .i64))], [(0, .cell [.val (.sl 5 (.int .u8)), .val (.int .i64), .val (.int .i64)])], 1, []⟩
def oshi1001_3kx0 : Shape := ⟨[(3, .pc 0 0)], [(0, .cell [.val (.sl 5 (.int .u8)), .val (.int .i64), .val (.int .i64)])], 1, []⟩
def uni1001_3 : (List Int) × Int × (List Int) × Int × Int → shi1001_3.V := fun (x0, x4, z0_0, z0_1, z0_2) => ((x0, ((), (x4, ()))), ((z0_0, (z0_1, (z0_2, ()))), ()))
def fli1001_3 : shi1001_3.V → (List Int) × Int × (List Int) × Int × Int := fun ((x0, (_, (x4, _))), ((z0_0, (z0_1, (z0_2, _))), _)) => (x0, x4, z0_0, z0_1, z0_2)
def i1001_L (k : Nat) (q : Nat) (s : St) (K : AExit → St → Option R) : Option R := bif Nat.beq q 3 then (match shi1001_3.dec s with | some v => i1001_l3 (R := R) k k (fli1001_3 v) (fun (z0_0, z0_1, z0_2) => K (.exit 0) (oshi1001_3kx0.enc (((), ()), ((z0_0, (z0_1, (z0_2, ()))), ())))) | none => none) else (none)
def i1001_J (k : Nat) : Inl R := noInl
def J (k : Nat) : Inl R := (inlCons 1001 69 (inst (i1001_env k) (i1001_J k) (i1001_L k) Try.f69 []) noInl)
theorem stepi1001_3 (k n : Nat) (K : AExit → St → Option R) : ∀ v, aloop (aexec (i1001_env k) (i1001_J k) (i1001_L k) ((findLoop 3 (codeOf Try.f69)).getD .skip)) (normSt [(0, .asis), (3, .asis), (4, .asis)]) (normSt [(3, .asis)]) K (n + 1) (shi1001_3.enc (uni1001_3 v)) = i1001_s3 (R := R) k (fun w => aloop (aexec (i1001_env k) (i1001_J k) (i1001_L k) ((findLoop 3 (codeOf Try.f69)).getD .skip)) (normSt [(0, .asis), (3, .asis), (4, .asis)]) (normSt [(3, .asis)]) K n (shi1001_3.enc (uni1001_3 w))) (fun (z0_0, z0_1, z0_2) => K (.exit 0) (oshi1001_3kx0.enc (((), ()), ((z0_0, (z0_1, (z0_2, ()))), ())))) v := by intro v; kernel_rfl
theorem eq (k : Nat) : ∀ a, aexec (env k) (J k) (L k) (codeOf Try.f48) (begSt [.ro (.sl 5 (.int .u8))] a) (finK (env k) Try.f48 [.ro (.sl 5 (.int .u8))] [.stb (.sl 2 (.int .i64)), .own (.sl 4 .bool), .own (.sl 2 (.int .i64)), .own (.sl 2 (.int .i64)), .own (.int .i64)]) = (entry k).fn a := by intro a; kernel_rfl
theorem loops (k : Nat) : LoopsOk (env k) (J k) (L k) (codeOf Try.f48) := by
  intro c an hc han s K r h
  unfold L at h
  cases h
theorem runi1001_3 (k : Nat) (K : AExit → St → Option R) : ∀ n v, aloop (aexec (i1001_env k) (i1001_J k) (i1001_L k) ((findLoop 3 (codeOf Try.f69)).getD .skip)) (normSt [(0, .asis), (3, .asis), (4, .asis)]) (normSt [(3, .asis)]) K n (shi1001_3.enc (uni1001_3 v)) = i1001_l3 (R := R) k n v (fun (z0_0, z0_1, z0_2) => K (.exit 0) (oshi1001_3kx0.enc (((), ()), ((z0_0, (z0_1, (z0_2, ()))), ())))) := loop_eq (fun n v => aloop (aexec (i1001_env k) (i1001_J k) (i1001_L k) ((findLoop 3 (codeOf Try.f69)).getD .skip)) (normSt [(0, .asis), (3, .asis), (4, .asis)]) (normSt [(3, .asis)]) K n (shi1001_3.enc (uni1001_3 v))) (fun n v => i1001_l3 (R := R) k n v (fun (z0_0, z0_1, z0_2) => K (.exit 0) (oshi1001_3kx0.enc (((), ()), ((z0_0, (z0_1, (z0_2, ()))), ()))))) (fun X v => i1001_s3 (R := R) k X (fun (z0_0, z0_1, z0_2) => K (.exit 0) (oshi1001_3kx0.enc (((), ()), ((z0_0, (z0_1, (z0_2, ()))), ())))) v) (fun _ => rfl) (fun n v => stepi1001_3 k n K v) (fun n v => rfl)
theorem i1001_loops (k : Nat) : LoopsOk (i1001_env k) (i1001_J k) (i1001_L k) (codeOf Try.f69) := by
  intro c an hc han s K r h
  unfold i1001_L at h
  by_cases q3 : firstRegion c = 3
  · have h1 := key_eq q3 h
    rw [q3] at hc han
    have e2 : an = ⟨[(0, .asis), (3, .asis), (4, .asis)], [(3, .asis)]⟩ := (Option.some.inj (show some _ = some an from han)).symm
    have e1 : c = (findLoop 3 (codeOf Try.f69)).getD .skip := by rw [hc]; rfl
    cases hd : shi1001_3.dec s with
    | none => rw [hd] at h1; cases h1
    | some v =>
      rw [hd] at h1
      refine ⟨k, ?_⟩
      rw [e1, e2, Shape.dec_enc _ _ _ hd]
      exact (runi1001_3 k K k (fli1001_3 v)).trans h1
  have h := not_key q3 h
  cases h
theorem i1001_fit (k : Nat) : codeFit (i1001_env k) (codeOf Try.f69) = true := by kernel_rfl
theorem i1001_lps : (loopsIn (codeOf Try.f69)).map (fun d => findLoop (firstRegion d) (codeOf Try.f69)) = (loopsIn (codeOf Try.f69)).map some := by kernel_rfl
theorem i1001_hf : Try.prog.funcs[69]? = some Try.f69 := by kernel_rfl
theorem i1001_hb : Try.f69.body = some (codeOf Try.f69) := by kernel_rfl
theorem i1001_hn : (Try.f69.name == "runtime.NumGoroutine") = false := by kernel_rfl
theorem i1001_hJ (k : Nat) : ∀ C : Ctx, C.P = Try.prog → ∀ r, InlOk C (i1001_J k) r := fun C hC r => noInl_ok
theorem i1001_one (k : Nat) (C : Ctx) (hC : C.P = Try.prog) (r : R) : OneOk C 69 (inst (i1001_env k) (i1001_J k) (i1001_L k) Try.f69 []) r := inst_ok hC (by kernel_rfl) (by kernel_rfl) (by kernel_rfl) (by kernel_rfl) (tbl_cons (spec_l01Next.sound k) (tbl_cons (spec_l13DrawValues.sound k) (tbl_cons (spec_l12Draw.sound k) tbl_nil))) i1001_hf i1001_hb i1001_hn (i1001_fit k) (loops_all i1001_lps) (fun C hC => i1001_hJ k C hC r) (i1001_loops k)
theorem fit (k : Nat) : codeFit (env k) (codeOf Try.f48) = true := by kernel_rfl
theorem lps : (loopsIn (codeOf Try.f48)).map (fun d => findLoop (firstRegion d) (codeOf Try.f48)) = (loopsIn (codeOf Try.f48)).map some := by kernel_rfl
theorem hf : Try.prog.funcs[48]? = some Try.f48 := by kernel_rfl
theorem hb : Try.f48.body = some (codeOf Try.f48) := by kernel_rfl
theorem hn : (Try.f48.name == "runtime.NumGoroutine") = false := by kernel_rfl
theorem hJ (k : Nat) : ∀ C : Ctx, C.P = Try.prog → ∀ r, InlOk C (J k) r := fun C hC r => (inlCons_ok (i1001_one k C hC r) noInl_ok)
theorem sound (k : Nat) : Sound Try.prog 48 (entry k) := func_sound (E := env k) (by kernel_rfl) (by kernel_rfl) (by kernel_rfl) (by kernel_rfl) (tbl_cons (spec_l01Next.sound k) (tbl_cons (spec_l13DrawValues.sound k) (tbl_cons (spec_l12Draw.sound k) tbl_nil))) hf hb hn (fit k) (loops_all lps) (hJ k) (loops k) (eq k)
end spec_DrawSettleHand

namespace spec_l02Pick
def entry (k : Nat) : Entry := ⟨[.ptr (.pair (.sl 5 (.int .u8)) (.pair (.int .i64) (.pair (.int .i64) .unit))), .ro (.sl 2 (.int .i64))], [.own (.sl 2 (.int .i64))], fun (a0, (a1, _)) => f k a0 a1⟩
def tbl (k : Nat) : List (Nat × Option Entry) := [(72, some (spec_l01Next.entry k))]
abbrev R := Res [.own (.sl 2 (.int .i64))] × Outs [.ptr (.pair (.sl 5 (.int .u8)) (.pair (.int .i64) (.pair (.int .i64) .unit))), .ro (.sl 2 (.int .i64))]
def env (k : Nat) : Env := ⟨Try.prog, 36, AM.look none (tbl k), AM.look none [(3, some ⟨[(0, .asis), (1, .asis), (5, .asis), (6, .asis)], [(5, .asis)]⟩)]⟩
def sh3 : Shape := ⟨[(0, .pc 0 0), (1, .val (.sl 2 (.int .i64))), (5, .ref 1), (6, .val (.int .i64))], [(0, .cell [.val (.sl 5 (.int .u8)), .val (.int .i64), .val (.int .i64)]), (1, .row 2 (.int .i64))], 2, [0]⟩
def osh3kx0 : Shape := ⟨[(5, .ref 1)], [(0, .cell [.val (.sl 5 (.int .u8)), .val (.int .i64), .val (.int .i64)]), (1, .row 2 (.int .i64))], 2, [0]⟩
def un3 : (List Int) × Int × (List Int) × Int × Int × (List Int) → sh3.V := fun (x1, x6, z0_0, z0_1, z0_2, y1) => (((), (x1, ((), (x6, ())))), ((z0_0, (z0_1, (z0_2, ()))), (y1, ())))
def fl3 : sh3.V → (List Int) × Int × (List Int) × Int × Int × (List Int) := fun ((_, (x1, (_, (x6, _)))), ((z0_0, (z0_1, (z0_2, _))), (y1, _))) => (x1, x6, z0_0, z0_1, z0_2, y1)
def L (k : Nat) (q : Nat) (s : St) (K : AExit → St → Option R) : Option R := bif Nat.beq q 3 then (match sh3.dec s with | some v => l3 (R := R) k k (fl3 v) (fun (z0_0, z0_1, z0_2, y1) => K (.exit 0) (osh3kx0.enc (((), ()), ((z0_0, (z0_1, (z0_2, ()))), (y1, ()))))) | none => none) else (none)
def J (k : Nat) : Inl R := noInl
theorem step3 (k n : Nat) (K : AExit → St → Option R) : ∀ v, aloop (aexec (env k) (J k) (L k) ((findLoop 3 (codeOf Try.f85)).getD .skip)) (normSt [(0, .asis), (1, .asis), (5, .asis), (6, .asis)]) (normSt [(5, .asis)]) K (n + 1) (sh3.enc (un3 v)) = s3 (R := R) k (fun w => aloop (aexec (env k) (J k) (L k) ((findLoop 3 (codeOf Try.f85)).getD .skip)) (normSt [(0, .asis), (1, .asis), (5, .asis), (6, .asis)]) (normSt [(5, .asis)]) K n (sh3.enc (un3 w))) (fun (z0_0, z0_1, z0_2, y1) => K (.exit 0) (osh3kx0.enc (((), ()), ((z0_0, (z0_1, (z0_2, ()))), (y1, ()))))) v := by intro v; kernel_rfl
theorem eq (k : Nat) : ∀ a, aexec (env k) (J k) (L k) (codeOf Try.f85) (begSt [.ptr (.pair (.sl 5 (.int .u8)) (.pair (.int .i64) (.pair (.int .i64) .unit))), .ro (.sl 2 (.int .i64))] a) (finK (env k) Try.f85 [.ptr (.pair (.sl 5 (.int .u8)) (.pair (.int .i64) (.pair (.int .i64) .unit))), .ro (.sl 2 (.int .i64))] [.own (.sl 2 (.int .i64))]) = (entry k).fn a := by intro a; kernel_rfl
theorem run3 (k : Nat) (K : AExit → St → Option R) : ∀ n v, aloop (aexec (env k) (J k) (L k) ((findLoop 3 (codeOf Try.f85)).getD .skip)) (normSt [(0, .asis), (1, .asis), (5, .asis), (6, .asis)]) (normSt [(5, .asis)]) K n (sh3.enc (un3 v)) = l3 (R := R) k n v (fun (z0_0, z0_1, z0_2, y1) => K (.exit 0) (osh3kx0.enc (((), ()), ((z0_0, (z0_1, (z0_2, ()))), (y1, ()))))) := loop_eq (fun n v => aloop (aexec (env k) (J k) (L k) ((findLoop 3 (codeOf Try.f85)).getD .skip)) (normSt [(0, .asis), (1, .asis), (5, .asis), (6, .asis)]) (normSt [(5, .asis)]) K n (sh3.enc (un3 v))) (fun n v => l3 (R := R) k n v (fun (z0_0, z0_1, z0_2, y1) => K (.exit 0) (osh3kx0.enc (((), ()), ((z0_0, (z0_1, (z0_2, ()))), (y1, ())))))) (fun X v => s3 (R := R) k X (fun (z0_0, z0_1, z0_2, y1) => K (.exit 0) (osh3kx0.enc (((), ()), ((z0_0, (z0_1, (z0_2, ()))), (y1, ()))))) v) (fun _ => rfl) (fun n v => step3 k n K v) (fun n v => rfl)
theorem loops (k : Nat) : LoopsOk (env k) (J k) (L k) (codeOf Try.f85) := by
  intro c an hc han s K r h
  unfold L at h
  by_cases q3 : firstRegion c = 3
  · have h1 := key_eq q3 h
    rw [q3] at hc han
    have e2 : an = ⟨[(0, .asis), (1, .asis), (5, .asis), (6, .asis)], [(5, .asis)]⟩ := (Option.some.inj (show some _ = some an from han)).symm
    have e1 : c = (findLoop 3 (codeOf Try.f85)).getD .skip := by rw [hc]; rfl
    cases hd : sh3.dec s with
    | none => rw [hd] at h1; cases h1
    | some v =>
      rw [hd] at h1
      refine ⟨k, ?_⟩
      rw [e1, e2, Shape.dec_enc _ _ _ hd]
      exact (run3 k K k (fl3 v)).trans h1
  have h := not_key q3 h
  cases h
theorem fit (k : Nat) : codeFit (env k) (codeOf Try.f85) = true := by kernel_rfl
theorem lps : (loopsIn (codeOf Try.f85)).map (fun d => findLoop (firstRegion d) (codeOf Try.f85)) = (loopsIn (codeOf Try.f85)).map some := by kernel_rfl
theorem hf : Try.prog.funcs[85]? = some Try.f85 := by kernel_rfl
theorem hb : Try.f85.body = some (codeOf Try.f85) := by kernel_rfl
theorem hn : (Try.f85.name == "runtime.NumGoroutine") = false := by kernel_rfl
theorem hJ (k : Nat) : ∀ C : Ctx, C.P = Try.prog → ∀ r, InlOk C (J k) r := fun C hC r => noInl_ok
theorem sound (k : Nat) : Sound Try.prog 85 (entry k) := func_sound (E := env k) (by kernel_rfl) (by kernel_rfl) (by kernel_rfl) (by kernel_rfl) (tbl_cons (spec_l01Next.sound k) tbl_nil) hf hb hn (fit k) (loops_all lps) (hJ k) (loops k) (eq k)
end spec_l02Pick
end Go.Sh
