/- Each Go function that the law reaches keeps the contract that its Lean function states; conditions: none. -/
import Derived.Test.YtipjcodpegpocaaA1
import Derived.Test.YtipjcodpegpocaaSFnAwards0
import Derived.Test.YtipjcodpegpocaaProg
noncomputable section
set_option linter.unusedVariables false
set_option maxRecDepth 100000
namespace Go.Sh
open Go Go.AM Go.Proofs
namespace impl_within
def entry (k : Nat) : Entry := ⟨[.ro (.int .i64), .ro (.int .i64), .ro (.int .i64)], [.own .bool], fun (a0, (a1, (a2, _))) => f k a0 a1 a2⟩
def tbl (k : Nat) : List (Nat × Option Entry) := []
abbrev R := Res [.own .bool] × Outs [.ro (.int .i64), .ro (.int .i64), .ro (.int .i64)]
def env (k : Nat) : Env := ⟨Try.prog, 15, AM.look none (tbl k), AM.look none []⟩
def L (k : Nat) (q : Nat) (s : St) (K : AExit → St → Option R) : Option R := none
def J (k : Nat) : Inl R := noInl
theorem eq (k : Nat) : ∀ a, aexec (env k) (J k) (L k) (codeOf Try.f59) (begSt [.ro (.int .i64), .ro (.int .i64), .ro (.int .i64)] a) (finK (env k) Try.f59 [.ro (.int .i64), .ro (.int .i64), .ro (.int .i64)] [.own .bool]) = (entry k).fn a := by intro a; kernel_rfl
theorem loops (k : Nat) : LoopsOk (env k) (J k) (L k) (codeOf Try.f59) := by
  intro c an hc han s K r h
  unfold L at h
  cases h
theorem fit (k : Nat) : codeFit (env k) (codeOf Try.f59) = true := by kernel_rfl
theorem lps : (loopsIn (codeOf Try.f59)).map (fun d => findLoop (firstRegion d) (codeOf Try.f59)) = (loopsIn (codeOf Try.f59)).map some := by kernel_rfl
theorem hf : Try.prog.funcs[59]? = some Try.f59 := by kernel_rfl
theorem hb : Try.f59.body = some (codeOf Try.f59) := by kernel_rfl
theorem hn : (Try.f59.name == "runtime.NumGoroutine") = false := by kernel_rfl
theorem hJ (k : Nat) : ∀ C : Ctx, C.P = Try.prog → ∀ r, InlOk C (J k) r := fun C hC r => noInl_ok
theorem sound (k : Nat) : Sound Try.prog 59 (entry k) := func_sound (E := env k) (by kernel_rfl) (by kernel_rfl) (by kernel_rfl) (by kernel_rfl) tbl_nil hf hb hn (fit k) (loops_all lps) (hJ k) (loops k) (eq k)
end impl_within

namespace impl_allWithin
def entry (k : Nat) : Entry := ⟨[.ro (.sl 2 (.int .i64)), .ro (.int .i64), .ro (.int .i64)], [.own .bool], fun (a0, (a1, (a2, _))) => f k a0 a1 a2⟩
def tbl (k : Nat) : List (Nat × Option Entry) := [(59, some (impl_within.entry k))]
abbrev R := Res [.own .bool] × Outs [.ro (.sl 2 (.int .i64)), .ro (.int .i64), .ro (.int .i64)]
def env (k : Nat) : Env := ⟨Try.prog, 21, AM.look none (tbl k), AM.look none [(2, some ⟨[(1, .asis), (2, .asis), (9, .asis), (10, .asis), (11, .asis)], [(6, .asis)]⟩)]⟩
def sh2 : Shape := ⟨[(1, .val (.int .i64)), (2, .val (.int .i64)), (9, .val (.sl 2 (.int .i64))), (10, .val (.int .i64)), (11, .val (.int .i64))], [], 0, []⟩
def osh2kx0 : Shape := ⟨[(6, .undef)], [], 0, []⟩
def osh2kr : Shape := ⟨[(6, .val .bool)], [], 0, []⟩
def un2 : Int × Int × (List Int) × Int × Int → sh2.V := fun (x1, x2, x9, x10, x11) => ((x1, (x2, (x9, (x10, (x11, ()))))), ())
def fl2 : sh2.V → Int × Int × (List Int) × Int × Int := fun ((x1, (x2, (x9, (x10, (x11, _))))), _) => (x1, x2, x9, x10, x11)
def L (k : Nat) (q : Nat) (s : St) (K : AExit → St → Option R) : Option R := bif Nat.beq q 2 then (match sh2.dec s with | some v => l2 (R := R) k k (fl2 v) (fun (_ : Unit) => K (.exit 0) (osh2kx0.enc (((), ()), ()))) (fun x6 => K .ret (osh2kr.enc ((x6, ()), ()))) | none => none) else (none)
def J (k : Nat) : Inl R := noInl
theorem step2 (k n : Nat) (K : AExit → St → Option R) : ∀ v, aloop (aexec (env k) (J k) (L k) ((findLoop 2 (codeOf Try.f87)).getD .skip)) (normSt [(1, .asis), (2, .asis), (9, .asis), (10, .asis), (11, .asis)]) (normSt [(6, .asis)]) K (n + 1) (sh2.enc (un2 v)) = s2 (R := R) k (fun w => aloop (aexec (env k) (J k) (L k) ((findLoop 2 (codeOf Try.f87)).getD .skip)) (normSt [(1, .asis), (2, .asis), (9, .asis), (10, .asis), (11, .asis)]) (normSt [(6, .asis)]) K n (sh2.enc (un2 w))) (fun (_ : Unit) => K (.exit 0) (osh2kx0.enc (((), ()), ()))) (fun x6 => K .ret (osh2kr.enc ((x6, ()), ()))) v := by intro v; kernel_rfl
theorem eq (k : Nat) : ∀ a, aexec (env k) (J k) (L k) (codeOf Try.f87) (begSt [.ro (.sl 2 (.int .i64)), .ro (.int .i64), .ro (.int .i64)] a) (finK (env k) Try.f87 [.ro (.sl 2 (.int .i64)), .ro (.int .i64), .ro (.int .i64)] [.own .bool]) = (entry k).fn a := by intro a; kernel_rfl
theorem run2 (k : Nat) (K : AExit → St → Option R) : ∀ n v, aloop (aexec (env k) (J k) (L k) ((findLoop 2 (codeOf Try.f87)).getD .skip)) (normSt [(1, .asis), (2, .asis), (9, .asis), (10, .asis), (11, .asis)]) (normSt [(6, .asis)]) K n (sh2.enc (un2 v)) = l2 (R := R) k n v (fun (_ : Unit) => K (.exit 0) (osh2kx0.enc (((), ()), ()))) (fun x6 => K .ret (osh2kr.enc ((x6, ()), ()))) := loop_eq (fun n v => aloop (aexec (env k) (J k) (L k) ((findLoop 2 (codeOf Try.f87)).getD .skip)) (normSt [(1, .asis), (2, .asis), (9, .asis), (10, .asis), (11, .asis)]) (normSt [(6, .asis)]) K n (sh2.enc (un2 v))) (fun n v => l2 (R := R) k n v (fun (_ : Unit) => K (.exit 0) (osh2kx0.enc (((), ()), ()))) (fun x6 => K .ret (osh2kr.enc ((x6, ()), ())))) (fun X v => s2 (R := R) k X (fun (_ : Unit) => K (.exit 0) (osh2kx0.enc (((), ()), ()))) (fun x6 => K .ret (osh2kr.enc ((x6, ()), ()))) v) (fun _ => rfl) (fun n v => step2 k n K v) (fun n v => rfl)
theorem loops (k : Nat) : LoopsOk (env k) (J k) (L k) (codeOf Try.f87) := by
  intro c an hc han s K r h
  unfold L at h
  by_cases q2 : firstRegion c = 2
  · have h1 := key_eq q2 h
    rw [q2] at hc han
    have e2 : an = ⟨[(1, .asis), (2, .asis), (9, .asis), (10, .asis), (11, .asis)], [(6, .asis)]⟩ := (Option.some.inj (show some _ = some an from han)).symm
    have e1 : c = (findLoop 2 (codeOf Try.f87)).getD .skip := by rw [hc]; rfl
    cases hd : sh2.dec s with
    | none => rw [hd] at h1; cases h1
    | some v =>
      rw [hd] at h1
      refine ⟨k, ?_⟩
      rw [e1, e2, Shape.dec_enc _ _ _ hd]
      exact (run2 k K k (fl2 v)).trans h1
  have h := not_key q2 h
  cases h
theorem fit (k : Nat) : codeFit (env k) (codeOf Try.f87) = true := by kernel_rfl
theorem lps : (loopsIn (codeOf Try.f87)).map (fun d => findLoop (firstRegion d) (codeOf Try.f87)) = (loopsIn (codeOf Try.f87)).map some := by kernel_rfl
theorem hf : Try.prog.funcs[87]? = some Try.f87 := by kernel_rfl
theorem hb : Try.f87.body = some (codeOf Try.f87) := by kernel_rfl
theorem hn : (Try.f87.name == "runtime.NumGoroutine") = false := by kernel_rfl
theorem hJ (k : Nat) : ∀ C : Ctx, C.P = Try.prog → ∀ r, InlOk C (J k) r := fun C hC r => noInl_ok
theorem sound (k : Nat) : Sound Try.prog 87 (entry k) := func_sound (E := env k) (by kernel_rfl) (by kernel_rfl) (by kernel_rfl) (by kernel_rfl) (tbl_cons (impl_within.sound k) tbl_nil) hf hb hn (fit k) (loops_all lps) (hJ k) (loops k) (eq k)
end impl_allWithin

namespace impl_increasing
def entry (k : Nat) : Entry := ⟨[.ro (.sl 2 (.int .i64))], [.own .bool], fun (a0, _) => f k a0⟩
def tbl (k : Nat) : List (Nat × Option Entry) := []
abbrev R := Res [.own .bool] × Outs [.ro (.sl 2 (.int .i64))]
def env (k : Nat) : Env := ⟨Try.prog, 20, AM.look none (tbl k), AM.look none [(2, some ⟨[(0, .asis), (3, .asis)], [(2, .asis)]⟩)]⟩
def sh2 : Shape := ⟨[(0, .val (.sl 2 (.int .i64))), (3, .val (.int .i64))], [], 0, []⟩
def osh2kx0 : Shape := ⟨[(2, .undef)], [], 0, []⟩
def osh2kr : Shape := ⟨[(2, .val .bool)], [], 0, []⟩
def un2 : (List Int) × Int → sh2.V := fun (x0, x3) => ((x0, (x3, ())), ())
def fl2 : sh2.V → (List Int) × Int := fun ((x0, (x3, _)), _) => (x0, x3)
def L (k : Nat) (q : Nat) (s : St) (K : AExit → St → Option R) : Option R := bif Nat.beq q 2 then (match sh2.dec s with | some v => l2 (R := R) k k (fl2 v) (fun (_ : Unit) => K (.exit 0) (osh2kx0.enc (((), ()), ()))) (fun x2 => K .ret (osh2kr.enc ((x2, ()), ()))) | none => none) else (none)
def J (k : Nat) : Inl R := noInl
theorem step2 (k n : Nat) (K : AExit → St → Option R) : ∀ v, aloop (aexec (env k) (J k) (L k) ((findLoop 2 (codeOf Try.f95)).getD .skip)) (normSt [(0, .asis), (3, .asis)]) (normSt [(2, .asis)]) K (n + 1) (sh2.enc (un2 v)) = s2 (R := R) k (fun w => aloop (aexec (env k) (J k) (L k) ((findLoop 2 (codeOf Try.f95)).getD .skip)) (normSt [(0, .asis), (3, .asis)]) (normSt [(2, .asis)]) K n (sh2.enc (un2 w))) (fun (_ : Unit) => K (.exit 0) (osh2kx0.enc (((), ()), ()))) (fun x2 => K .ret (osh2kr.enc ((x2, ()), ()))) v := by intro v; kernel_rfl
theorem eq (k : Nat) : ∀ a, aexec (env k) (J k) (L k) (codeOf Try.f95) (begSt [.ro (.sl 2 (.int .i64))] a) (finK (env k) Try.f95 [.ro (.sl 2 (.int .i64))] [.own .bool]) = (entry k).fn a := by intro a; kernel_rfl
theorem run2 (k : Nat) (K : AExit → St → Option R) : ∀ n v, aloop (aexec (env k) (J k) (L k) ((findLoop 2 (codeOf Try.f95)).getD .skip)) (normSt [(0, .asis), (3, .asis)]) (normSt [(2, .asis)]) K n (sh2.enc (un2 v)) = l2 (R := R) k n v (fun (_ : Unit) => K (.exit 0) (osh2kx0.enc (((), ()), ()))) (fun x2 => K .ret (osh2kr.enc ((x2, ()), ()))) := loop_eq (fun n v => aloop (aexec (env k) (J k) (L k) ((findLoop 2 (codeOf Try.f95)).getD .skip)) (normSt [(0, .asis), (3, .asis)]) (normSt [(2, .asis)]) K n (sh2.enc (un2 v))) (fun n v => l2 (R := R) k n v (fun (_ : Unit) => K (.exit 0) (osh2kx0.enc (((), ()), ()))) (fun x2 => K .ret (osh2kr.enc ((x2, ()), ())))) (fun X v => s2 (R := R) k X (fun (_ : Unit) => K (.exit 0) (osh2kx0.enc (((), ()), ()))) (fun x2 => K .ret (osh2kr.enc ((x2, ()), ()))) v) (fun _ => rfl) (fun n v => step2 k n K v) (fun n v => rfl)
theorem loops (k : Nat) : LoopsOk (env k) (J k) (L k) (codeOf Try.f95) := by
  intro c an hc han s K r h
  unfold L at h
  by_cases q2 : firstRegion c = 2
  · have h1 := key_eq q2 h
    rw [q2] at hc han
    have e2 : an = ⟨[(0, .asis), (3, .asis)], [(2, .asis)]⟩ := (Option.some.inj (show some _ = some an from han)).symm
    have e1 : c = (findLoop 2 (codeOf Try.f95)).getD .skip := by rw [hc]; rfl
    cases hd : sh2.dec s with
    | none => rw [hd] at h1; cases h1
    | some v =>
      rw [hd] at h1
      refine ⟨k, ?_⟩
      rw [e1, e2, Shape.dec_enc _ _ _ hd]
      exact (run2 k K k (fl2 v)).trans h1
  have h := not_key q2 h
  cases h
theorem fit (k : Nat) : codeFit (env k) (codeOf Try.f95) = true := by kernel_rfl
theorem lps : (loopsIn (codeOf Try.f95)).map (fun d => findLoop (firstRegion d) (codeOf Try.f95)) = (loopsIn (codeOf Try.f95)).map some := by kernel_rfl
theorem hf : Try.prog.funcs[95]? = some Try.f95 := by kernel_rfl
theorem hb : Try.f95.body = some (codeOf Try.f95) := by kernel_rfl
theorem hn : (Try.f95.name == "runtime.NumGoroutine") = false := by kernel_rfl
theorem hJ (k : Nat) : ∀ C : Ctx, C.P = Try.prog → ∀ r, InlOk C (J k) r := fun C hC r => noInl_ok
theorem sound (k : Nat) : Sound Try.prog 95 (entry k) := func_sound (E := env k) (by kernel_rfl) (by kernel_rfl) (by kernel_rfl) (by kernel_rfl) tbl_nil hf hb hn (fit k) (loops_all lps) (hJ k) (loops k) (eq k)
end impl_increasing

namespace impl_areWinners
def entry (k : Nat) : Entry := ⟨[.ro (.sl 2 (.int .i64)), .ro (.int .i64)], [.own .bool], fun (a0, (a1, _)) => f k a0 a1⟩
def tbl (k : Nat) : List (Nat × Option Entry) := [(87, some (impl_allWithin.entry k)), (95, some (impl_increasing.entry k))]
abbrev R := Res [.own .bool] × Outs [.ro (.sl 2 (.int .i64)), .ro (.int .i64)]
def env (k : Nat) : Env := ⟨Try.prog, 18, AM.look none (tbl k), AM.look none []⟩
def L (k : Nat) (q : Nat) (s : St) (K : AExit → St → Option R) : Option R := none
def J (k : Nat) : Inl R := noInl
theorem eq (k : Nat) : ∀ a, aexec (env k) (J k) (L k) (codeOf Try.f60) (begSt [.ro (.sl 2 (.int .i64)), .ro (.int .i64)] a) (finK (env k) Try.f60 [.ro (.sl 2 (.int .i64)), .ro (.int .i64)] [.own .bool]) = (entry k).fn a := by intro a; kernel_rfl
theorem loops (k : Nat) : LoopsOk (env k) (J k) (L k) (codeOf Try.f60) := by
  intro c an hc han s K r h
  unfold L at h
  cases h
theorem fit (k : Nat) : codeFit (env k) (codeOf Try.f60) = true := by kernel_rfl
theorem lps : (loopsIn (codeOf Try.f60)).map (fun d => findLoop (firstRegion d) (codeOf Try.f60)) = (loopsIn (codeOf Try.f60)).map some := by kernel_rfl
theorem hf : Try.prog.funcs[60]? = some Try.f60 := by kernel_rfl
theorem hb : Try.f60.body = some (codeOf Try.f60) := by kernel_rfl
theorem hn : (Try.f60.name == "runtime.NumGoroutine") = false := by kernel_rfl
theorem hJ (k : Nat) : ∀ C : Ctx, C.P = Try.prog → ∀ r, InlOk C (J k) r := fun C hC r => noInl_ok
theorem sound (k : Nat) : Sound Try.prog 60 (entry k) := func_sound (E := env k) (by kernel_rfl) (by kernel_rfl) (by kernel_rfl) (by kernel_rfl) (tbl_cons (impl_allWithin.sound k) (tbl_cons (impl_increasing.sound k) tbl_nil)) hf hb hn (fit k) (loops_all lps) (hJ k) (loops k) (eq k)
end impl_areWinners

namespace impl_areValues_1
def entry (k : Nat) : Entry := ⟨[.ro (.int .i64)], [.own .bool], fun (a0, _) => f k a0⟩
def tbl (k : Nat) : List (Nat × Option Entry) := []
abbrev R := Res [.own .bool] × Outs [.ro (.int .i64)]
def env (k : Nat) : Env := ⟨Try.prog, 5, AM.look none (tbl k), AM.look none []⟩
def L (k : Nat) (q : Nat) (s : St) (K : AExit → St → Option R) : Option R := none
def J (k : Nat) : Inl R := noInl
theorem eq (k : Nat) : ∀ a, aexec (env k) (J k) (L k) (codeOf Try.f100) (begSt [.ro (.int .i64)] a) (finK (env k) Try.f100 [.ro (.int .i64)] [.own .bool]) = (entry k).fn a := by intro a; kernel_rfl
theorem loops (k : Nat) : LoopsOk (env k) (J k) (L k) (codeOf Try.f100) := by
  intro c an hc han s K r h
  unfold L at h
  cases h
theorem fit (k : Nat) : codeFit (env k) (codeOf Try.f100) = true := by kernel_rfl
theorem lps : (loopsIn (codeOf Try.f100)).map (fun d => findLoop (firstRegion d) (codeOf Try.f100)) = (loopsIn (codeOf Try.f100)).map some := by kernel_rfl
theorem hf : Try.prog.funcs[100]? = some Try.f100 := by kernel_rfl
theorem hb : Try.f100.body = some (codeOf Try.f100) := by kernel_rfl
theorem hn : (Try.f100.name == "runtime.NumGoroutine") = false := by kernel_rfl
theorem hJ (k : Nat) : ∀ C : Ctx, C.P = Try.prog → ∀ r, InlOk C (J k) r := fun C hC r => noInl_ok
theorem sound (k : Nat) : Sound Try.prog 100 (entry k) := func_sound (E := env k) (by kernel_rfl) (by kernel_rfl) (by kernel_rfl) (by kernel_rfl) tbl_nil hf hb hn (fit k) (loops_all lps) (hJ k) (loops k) (eq k)
end impl_areValues_1

namespace impl_areValues
def entry (k : Nat) : Entry := ⟨[.ro (.sl 2 (.int .i64))], [.own .bool], fun (a0, _) => f k a0⟩
def tbl (k : Nat) : List (Nat × Option Entry) := [(100, some (impl_areValues_1.entry k))]
abbrev R := Res [.own .bool] × Outs [.ro (.sl 2 (.int .i64))]
def env (k : Nat) : Env := ⟨Try.prog, 6, AM.look none (tbl k), AM.look none []⟩
def L (k : Nat) (q : Nat) (s : St) (K : AExit → St → Option R) : Option R := none
def i1001_env (k : Nat) : Env := ⟨Try.prog, 9, AM.look none (tbl k), AM.look none []⟩
def i1001_L (k : Nat) (q : Nat) (s : St) (K : AExit → St → Option R) : Option R := none
def i1001_i1002_env (k : Nat) : Env := ⟨Try.prog, 19, AM.look none (tbl k), AM.look none [(2, some ⟨[(0, .asis), (1, .asis), (7, .asis), (8, .asis)], [(4, .asis)]⟩)]⟩
def shi1001_i1002_2 : Shape := ⟨[(0, .val (.sl 2 (.int .i64))), (1, .fn 100 []), (7, .val (.int .i64)), (8, .val (.int .i64))], [], 0, []⟩
def oshi1001_i1002_2kx0 : Shape := ⟨[(4, .undef)], [], 0, []⟩
def oshi1001_i1002_2kr : Shape := ⟨[(4, .val (.int .i64))], [], 0, []⟩
def uni1001_i1002_2 : (List Int) × Int × Int → shi1001_i1002_2.V := fun (x0, x7, x8) => ((x0, ((), (x7, (x8, ())))), ())
def fli1001_i1002_2 : shi1001_i1002_2.V → (List Int) × Int × Int := fun ((x0, (_, (x7, (x8, _)))), _) => (x0, x7, x8)
def i1001_i1002_L (k : Nat) (q : Nat) (s : St) (K : AExit → St → Option R) : Option R := bif Nat.beq q 2 then (match shi1001_i1002_2.dec s with | some v => i1001_i1002_l2 (R := R) k k (fli1001_i1002_2 v) (fun (_ : Unit) => K (.exit 0) (oshi1001_i1002_2kx0.enc (((), ()), ()))) (fun x4 => K .ret (oshi1001_i1002_2kr.enc ((x4, ()), ()))) | none => none) else (none)
def i1001_i1002_J (k : Nat) : Inl R := noInl
def i1001_J (k : Nat) : Inl R := (inlCons 1002 111 (inst (i1001_i1002_env k) (i1001_i1002_J k) (i1001_i1002_L k) Try.f111 []) noInl)
def J (k : Nat) : Inl R := (inlCons 1001 99 (inst (i1001_env k) (i1001_J k) (i1001_L k) Try.f99 []) noInl)
theorem stepi1001_i1002_2 (k n : Nat) (K : AExit → St → Option R) : ∀ v, aloop (aexec (i1001_i1002_env k) (i1001_i1002_J k) (i1001_i1002_L k) ((findLoop 2 (codeOf Try.f111)).getD .skip)) (normSt [(0, .asis), (1, .asis), (7, .asis), (8, .asis)]) (normSt [(4, .asis)]) K (n + 1) (shi1001_i1002_2.enc (uni1001_i1002_2 v)) = i1001_i1002_s2 (R := R) k (fun w => aloop (aexec (i1001_i1002_env k) (i1001_i1002_J k) (i1001_i1002_L k) ((findLoop 2 (codeOf Try.f111)).getD .skip)) (normSt [(0, .asis), (1, .asis), (7, .asis), (8, .asis)]) (normSt [(4, .asis)]) K n (shi1001_i1002_2.enc (uni1001_i1002_2 w))) (fun (_ : Unit) => K (.exit 0) (oshi1001_i1002_2kx0.enc (((), ()), ()))) (fun x4 => K .ret (oshi1001_i1002_2kr.enc ((x4, ()), ()))) v := by intro v; kernel_rfl
theorem eq (k : Nat) : ∀ a, aexec (env k) (J k) (L k) (codeOf Try.f76) (begSt [.ro (.sl 2 (.int .i64))] a) (finK (env k) Try.f76 [.ro (.sl 2 (.int .i64))] [.own .bool]) = (entry k).fn a := by intro a; kernel_rfl
theorem loops (k : Nat) : LoopsOk (env k) (J k) (L k) (codeOf Try.f76) := by
  intro c an hc han s K r h
  unfold L at h
  cases h
theorem i1001_loops (k : Nat) : LoopsOk (i1001_env k) (i1001_J k) (i1001_L k) (codeOf Try.f99) := by
  intro c an hc han s K r h
  unfold i1001_L at h
  cases h
theorem runi1001_i1002_2 (k : Nat) (K : AExit → St → Option R) : ∀ n v, aloop (aexec (i1001_i1002_env k) (i1001_i1002_J k) (i1001_i1002_L k) ((findLoop 2 (codeOf Try.f111)).getD .skip)) (normSt [(0, .asis), (1, .asis), (7, .asis), (8, .asis)]) (normSt [(4, .asis)]) K n (shi1001_i1002_2.enc (uni1001_i1002_2 v)) = i1001_i1002_l2 (R := R) k n v (fun (_ : Unit) => K (.exit 0) (oshi1001_i1002_2kx0.enc (((), ()), ()))) (fun x4 => K .ret (oshi1001_i1002_2kr.enc ((x4, ()), ()))) := loop_eq (fun n v => aloop (aexec (i1001_i1002_env k) (i1001_i1002_J k) (i1001_i1002_L k) ((findLoop 2 (codeOf Try.f111)).getD .skip)) (normSt [(0, .asis), (1, .asis), (7, .asis), (8, .asis)]) (normSt [(4, .asis)]) K n (shi1001_i1002_2.enc (uni1001_i1002_2 v))) (fun n v => i1001_i1002_l2 (R := R) k n v (fun (_ : Unit) => K (.exit 0) (oshi1001_i1002_2kx0.enc (((), ()), ()))) (fun x4 => K .ret (oshi1001_i1002_2kr.enc ((x4, ()), ())))) (fun X v => i1001_i1002_s2 (R := R) k X (fun (_ : Unit) => K (.exit 0) (oshi1001_i1002_2kx0.enc (((), ()), ()))) (fun x4 => K .ret (oshi1001_i1002_2kr.enc ((x4, ()), ()))) v) (fun _ => rfl) (fun n v => stepi1001_i1002_2 k n K v) (fun n v => rfl)
theorem i1001_i1002_loops (k : Nat) : LoopsOk (i1001_i1002_env k) (i1001_i1002_J k) (i1001_i1002_L k) (codeOf Try.f111) := by
  intro c an hc han s K r h
  unfold i1001_i1002_L at h
  by_cases q2 : firstRegion c = 2
  · have h1 := key_eq q2 h
    rw [q2] at hc han
    have e2 : an = ⟨[(0, .asis), (1, .asis), (7, .asis), (8, .asis)], [(4, .asis)]⟩ := (Option.some.inj (show some _ = some an from han)).symm
    have e1 : c = (findLoop 2 (codeOf Try.f111)).getD .skip := by rw [hc]; rfl
    cases hd : shi1001_i1002_2.dec s with
    | none => rw [hd] at h1; cases h1
    | some v =>
      rw [hd] at h1
      refine ⟨k, ?_⟩
      rw [e1, e2, Shape.dec_enc _ _ _ hd]
      exact (runi1001_i1002_2 k K k (fli1001_i1002_2 v)).trans h1
  have h := not_key q2 h
  cases h
theorem i1001_i1002_fit (k : Nat) : codeFit (i1001_i1002_env k) (codeOf Try.f111) = true := by kernel_rfl
theorem i1001_i1002_lps : (loopsIn (codeOf Try.f111)).map (fun d => findLoop (firstRegion d) (codeOf Try.f111)) = (loopsIn (codeOf Try.f111)).map some := by kernel_rfl
theorem i1001_i1002_hf : Try.prog.funcs[111]? = some Try.f111 := by kernel_rfl
theorem i1001_i1002_hb : Try.f111.body = some (codeOf Try.f111) := by kernel_rfl
theorem i1001_i1002_hn : (Try.f111.name == "runtime.NumGoroutine") = false := by kernel_rfl
theorem i1001_i1002_hJ (k : Nat) : ∀ C : Ctx, C.P = Try.prog → ∀ r, InlOk C (i1001_i1002_J k) r := fun C hC r => noInl_ok
theorem i1001_i1002_one (k : Nat) (C : Ctx) (hC : C.P = Try.prog) (r : R) : OneOk C 111 (inst (i1001_i1002_env k) (i1001_i1002_J k) (i1001_i1002_L k) Try.f111 []) r := inst_ok hC (by kernel_rfl) (by kernel_rfl) (by kernel_rfl) (by kernel_rfl) (tbl_cons (impl_areValues_1.sound k) tbl_nil) i1001_i1002_hf i1001_i1002_hb i1001_i1002_hn (i1001_i1002_fit k) (loops_all i1001_i1002_lps) (fun C hC => i1001_i1002_hJ k C hC r) (i1001_i1002_loops k)
theorem i1001_fit (k : Nat) : codeFit (i1001_env k) (codeOf Try.f99) = true := by kernel_rfl
theorem i1001_lps : (loopsIn (codeOf Try.f99)).map (fun d => findLoop (firstRegion d) (codeOf Try.f99)) = (loopsIn (codeOf Try.f99)).map some := by kernel_rfl
theorem i1001_hf : Try.prog.funcs[99]? = some Try.f99 := by kernel_rfl
theorem i1001_hb : Try.f99.body = some (codeOf Try.f99) := by kernel_rfl
theorem i1001_hn : (Try.f99.name == "runtime.NumGoroutine") = false := by kernel_rfl
theorem i1001_hJ (k : Nat) : ∀ C : Ctx, C.P = Try.prog → ∀ r, InlOk C (i1001_J k) r := fun C hC r => (inlCons_ok (i1001_i1002_one k C hC r) noInl_ok)
theorem i1001_one (k : Nat) (C : Ctx) (hC : C.P = Try.prog) (r : R) : OneOk C 99 (inst (i1001_env k) (i1001_J k) (i1001_L k) Try.f99 []) r := inst_ok hC (by kernel_rfl) (by kernel_rfl) (by kernel_rfl) (by kernel_rfl) (tbl_cons (impl_areValues_1.sound k) tbl_nil) i1001_hf i1001_hb i1001_hn (i1001_fit k) (loops_all i1001_lps) (fun C hC => i1001_hJ k C hC r) (i1001_loops k)
theorem fit (k : Nat) : codeFit (env k) (codeOf Try.f76) = true := by kernel_rfl
theorem lps : (loopsIn (codeOf Try.f76)).map (fun d => findLoop (firstRegion d) (codeOf Try.f76)) = (loopsIn (codeOf Try.f76)).map some := by kernel_rfl
theorem hf : Try.prog.funcs[76]? = some Try.f76 := by kernel_rfl
theorem hb : Try.f76.body = some (codeOf Try.f76) := by kernel_rfl
theorem hn : (Try.f76.name == "runtime.NumGoroutine") = false := by kernel_rfl
theorem hJ (k : Nat) : ∀ C : Ctx, C.P = Try.prog → ∀ r, InlOk C (J k) r := fun C hC r => (inlCons_ok (i1001_one k C hC r) noInl_ok)
theorem sound (k : Nat) : Sound Try.prog 76 (entry k) := func_sound (E := env k) (by kernel_rfl) (by kernel_rfl) (by kernel_rfl) (by kernel_rfl) (tbl_cons (impl_areValues_1.sound k) tbl_nil) hf hb hn (fit k) (loops_all lps) (hJ k) (loops k) (eq k)
end impl_areValues

namespace impl_checkValues
def entry (k : Nat) : Entry := ⟨[.ro (.sl 2 (.int .i64)), .ro (.sl 2 (.int .i64))], [.own (.int .i64)], fun (a0, (a1, _)) => f k a0 a1⟩
def tbl (k : Nat) : List (Nat × Option Entry) := [(59, some (impl_within.entry k)), (60, some (impl_areWinners.entry k)), (76, some (impl_areValues.entry k))]
abbrev R := Res [.own (.int .i64)] × Outs [.ro (.sl 2 (.int .i64)), .ro (.sl 2 (.int .i64))]
def env (k : Nat) : Env := ⟨Try.prog, 20, AM.look none (tbl k), AM.look none []⟩
def L (k : Nat) (q : Nat) (s : St) (K : AExit → St → Option R) : Option R := none
def J (k : Nat) : Inl R := noInl
theorem eq (k : Nat) : ∀ a, aexec (env k) (J k) (L k) (codeOf Try.f63) (begSt [.ro (.sl 2 (.int .i64)), .ro (.sl 2 (.int .i64))] a) (finK (env k) Try.f63 [.ro (.sl 2 (.int .i64)), .ro (.sl 2 (.int .i64))] [.own (.int .i64)]) = (entry k).fn a := by intro a; kernel_rfl
theorem loops (k : Nat) : LoopsOk (env k) (J k) (L k) (codeOf Try.f63) := by
  intro c an hc han s K r h
  unfold L at h
  cases h
theorem fit (k : Nat) : codeFit (env k) (codeOf Try.f63) = true := by kernel_rfl
theorem lps : (loopsIn (codeOf Try.f63)).map (fun d => findLoop (firstRegion d) (codeOf Try.f63)) = (loopsIn (codeOf Try.f63)).map some := by kernel_rfl
theorem hf : Try.prog.funcs[63]? = some Try.f63 := by kernel_rfl
theorem hb : Try.f63.body = some (codeOf Try.f63) := by kernel_rfl
theorem hn : (Try.f63.name == "runtime.NumGoroutine") = false := by kernel_rfl
theorem hJ (k : Nat) : ∀ C : Ctx, C.P = Try.prog → ∀ r, InlOk C (J k) r := fun C hC r => noInl_ok
theorem sound (k : Nat) : Sound Try.prog 63 (entry k) := func_sound (E := env k) (by kernel_rfl) (by kernel_rfl) (by kernel_rfl) (by kernel_rfl) (tbl_cons (impl_within.sound k) (tbl_cons (impl_areWinners.sound k) (tbl_cons (impl_areValues.sound k) tbl_nil))) hf hb hn (fit k) (loops_all lps) (hJ k) (loops k) (eq k)
end impl_checkValues

namespace impl_highWinners
def entry (k : Nat) : Entry := ⟨[.ro (.sl 2 (.int .i64)), .ro (.sl 2 (.int .i64))], [.own (.sl 2 (.int .i64))], fun (a0, (a1, _)) => f k a0 a1⟩
def tbl (k : Nat) : List (Nat × Option Entry) := []
abbrev R := Res [.own (.sl 2 (.int .i64))] × Outs [.ro (.sl 2 (.int .i64)), .ro (.sl 2 (.int .i64))]
def env (k : Nat) : Env := ⟨Try.prog, 37, AM.look none (tbl k), AM.look none [(4, some ⟨[(1, .asis), (5, .row 2 (.int .i64)), (6, .asis), (9, .asis), (10, .asis), (11, .asis)], [(5, .asis)]⟩)]⟩
def sh4 : Shape := ⟨[(1, .val (.sl 2 (.int .i64))), (5, .ref 0), (6, .val (.int .i64)), (9, .val (.sl 2 (.int .i64))), (10, .val (.int .i64)), (11, .val (.int .i64))], [(0, .row 2 (.int .i64))], 1, []⟩
def osh4kx0 : Shape := ⟨[(5, .ref 0)], [(0, .row 2 (.int .i64))], 1, []⟩
def un4 : (List Int) × Int × (List Int) × Int × Int × (List Int) → sh4.V := fun (x1, x6, x9, x10, x11, y0) => ((x1, ((), (x6, (x9, (x10, (x11, ())))))), (y0, ()))
def fl4 : sh4.V → (List Int) × Int × (List Int) × Int × Int × (List Int) := fun ((x1, (_, (x6, (x9, (x10, (x11, _)))))), (y0, _)) => (x1, x6, x9, x10, x11, y0)
def L (k : Nat) (q : Nat) (s : St) (K : AExit → St → Option R) : Option R := bif Nat.beq q 4 then (match sh4.dec s with | some v => l4 (R := R) k k (fl4 v) (fun y0 => K (.exit 0) (osh4kx0.enc (((), ()), (y0, ())))) | none => none) else (none)
def J (k : Nat) : Inl R := noInl
theorem step4 (k n : Nat) (K : AExit → St → Option R) : ∀ v, aloop (aexec (env k) (J k) (L k) ((findLoop 4 (codeOf Try.f64)).getD .skip)) (normSt [(1, .asis), (5, .row 2 (.int .i64)), (6, .asis), (9, .asis), (10, .asis), (11, .asis)]) (normSt [(5, .asis)]) K (n + 1) (sh4.enc (un4 v)) = s4 (R := R) k (fun w => aloop (aexec (env k) (J k) (L k) ((findLoop 4 (codeOf Try.f64)).getD .skip)) (normSt [(1, .asis), (5, .row 2 (.int .i64)), (6, .asis), (9, .asis), (10, .asis), (11, .asis)]) (normSt [(5, .asis)]) K n (sh4.enc (un4 w))) (fun y0 => K (.exit 0) (osh4kx0.enc (((), ()), (y0, ())))) v := by intro v; kernel_rfl
theorem eq (k : Nat) : ∀ a, aexec (env k) (J k) (L k) (codeOf Try.f64) (begSt [.ro (.sl 2 (.int .i64)), .ro (.sl 2 (.int .i64))] a) (finK (env k) Try.f64 [.ro (.sl 2 (.int .i64)), .ro (.sl 2 (.int .i64))] [.own (.sl 2 (.int .i64))]) = (entry k).fn a := by intro a; kernel_rfl
theorem run4 (k : Nat) (K : AExit → St → Option R) : ∀ n v, aloop (aexec (env k) (J k) (L k) ((findLoop 4 (codeOf Try.f64)).getD .skip)) (normSt [(1, .asis), (5, .row 2 (.int .i64)), (6, .asis), (9, .asis), (10, .asis), (11, .asis)]) (normSt [(5, .asis)]) K n (sh4.enc (un4 v)) = l4 (R := R) k n v (fun y0 => K (.exit 0) (osh4kx0.enc (((), ()), (y0, ())))) := loop_eq (fun n v => aloop (aexec (env k) (J k) (L k) ((findLoop 4 (codeOf Try.f64)).getD .skip)) (normSt [(1, .asis), (5, .row 2 (.int .i64)), (6, .asis), (9, .asis), (10, .asis), (11, .asis)]) (normSt [(5, .asis)]) K n (sh4.enc (un4 v))) (fun n v => l4 (R := R) k n v (fun y0 => K (.exit 0) (osh4kx0.enc (((), ()), (y0, ()))))) (fun X v => s4 (R := R) k X (fun y0 => K (.exit 0) (osh4kx0.enc (((), ()), (y0, ())))) v) (fun _ => rfl) (fun n v => step4 k n K v) (fun n v => rfl)
theorem loops (k : Nat) : LoopsOk (env k) (J k) (L k) (codeOf Try.f64) := by
  intro c an hc han s K r h
  unfold L at h
  by_cases q4 : firstRegion c = 4
  · have h1 := key_eq q4 h
    rw [q4] at hc han
    have e2 : an = ⟨[(1, .asis), (5, .row 2 (.int .i64)), (6, .asis), (9, .asis), (10, .asis), (11, .asis)], [(5, .asis)]⟩ := (Option.some.inj (show some _ = some an from han)).symm
    have e1 : c = (findLoop 4 (codeOf Try.f64)).getD .skip := by rw [hc]; rfl
    cases hd : sh4.dec s with
    | none => rw [hd] at h1; cases h1
    | some v =>
      rw [hd] at h1
      refine ⟨k, ?_⟩
      rw [e1, e2, Shape.dec_enc _ _ _ hd]
      exact (run4 k K k (fl4 v)).trans h1
  have h := not_key q4 h
  cases h
theorem fit (k : Nat) : codeFit (env k) (codeOf Try.f64) = true := by kernel_rfl
theorem lps : (loopsIn (codeOf Try.f64)).map (fun d => findLoop (firstRegion d) (codeOf Try.f64)) = (loopsIn (codeOf Try.f64)).map some := by kernel_rfl
theorem hf : Try.prog.funcs[64]? = some Try.f64 := by kernel_rfl
theorem hb : Try.f64.body = some (codeOf Try.f64) := by kernel_rfl
theorem hn : (Try.f64.name == "runtime.NumGoroutine") = false := by kernel_rfl
theorem hJ (k : Nat) : ∀ C : Ctx, C.P = Try.prog → ∀ r, InlOk C (J k) r := fun C hC r => noInl_ok
theorem sound (k : Nat) : Sound Try.prog 64 (entry k) := func_sound (E := env k) (by kernel_rfl) (by kernel_rfl) (by kernel_rfl) (by kernel_rfl) tbl_nil hf hb hn (fit k) (loops_all lps) (hJ k) (loops k) (eq k)
end impl_highWinners

namespace impl_HighWinners
def entry (k : Nat) : Entry := ⟨[.ro (.sl 2 (.int .i64)), .ro (.sl 2 (.int .i64))], [.own (.sl 2 (.int .i64)), .own (.int .i64)], fun (a0, (a1, _)) => f k a0 a1⟩
def tbl (k : Nat) : List (Nat × Option Entry) := [(63, some (impl_checkValues.entry k)), (64, some (impl_highWinners.entry k))]
abbrev R := Res [.own (.sl 2 (.int .i64)), .own (.int .i64)] × Outs [.ro (.sl 2 (.int .i64)), .ro (.sl 2 (.int .i64))]
def env (k : Nat) : Env := ⟨Try.prog, 21, AM.look none (tbl k), AM.look none []⟩
def L (k : Nat) (q : Nat) (s : St) (K : AExit → St → Option R) : Option R := none
def J (k : Nat) : Inl R := noInl
theorem eq (k : Nat) : ∀ a, aexec (env k) (J k) (L k) (codeOf Try.f19) (begSt [.ro (.sl 2 (.int .i64)), .ro (.sl 2 (.int .i64))] a) (finK (env k) Try.f19 [.ro (.sl 2 (.int .i64)), .ro (.sl 2 (.int .i64))] [.own (.sl 2 (.int .i64)), .own (.int .i64)]) = (entry k).fn a := by intro a; kernel_rfl
theorem loops (k : Nat) : LoopsOk (env k) (J k) (L k) (codeOf Try.f19) := by
  intro c an hc han s K r h
  unfold L at h
  cases h
theorem fit (k : Nat) : codeFit (env k) (codeOf Try.f19) = true := by kernel_rfl
theorem lps : (loopsIn (codeOf Try.f19)).map (fun d => findLoop (firstRegion d) (codeOf Try.f19)) = (loopsIn (codeOf Try.f19)).map some := by kernel_rfl
theorem hf : Try.prog.funcs[19]? = some Try.f19 := by kernel_rfl
theorem hb : Try.f19.body = some (codeOf Try.f19) := by kernel_rfl
theorem hn : (Try.f19.name == "runtime.NumGoroutine") = false := by kernel_rfl
theorem hJ (k : Nat) : ∀ C : Ctx, C.P = Try.prog → ∀ r, InlOk C (J k) r := fun C hC r => noInl_ok
theorem sound (k : Nat) : Sound Try.prog 19 (entry k) := func_sound (E := env k) (by kernel_rfl) (by kernel_rfl) (by kernel_rfl) (by kernel_rfl) (tbl_cons (impl_checkValues.sound k) (tbl_cons (impl_highWinners.sound k) tbl_nil)) hf hb hn (fit k) (loops_all lps) (hJ k) (loops k) (eq k)
end impl_HighWinners

namespace impl_lowWinners
def entry (k : Nat) : Entry := ⟨[.ro (.sl 2 (.int .i64)), .ro (.sl 2 (.int .i64))], [.own (.sl 2 (.int .i64))], fun (a0, (a1, _)) => f k a0 a1⟩
def tbl (k : Nat) : List (Nat × Option Entry) := []
abbrev R := Res [.own (.sl 2 (.int .i64))] × Outs [.ro (.sl 2 (.int .i64)), .ro (.sl 2 (.int .i64))]
def env (k : Nat) : Env := ⟨Try.prog, 46, AM.look none (tbl k), AM.look none [(4, some ⟨[(1, .asis), (5, .row 2 (.int .i64)), (6, .asis), (9, .asis), (10, .asis), (11, .asis)], [(5, .asis)]⟩)]⟩
def sh4 : Shape := ⟨[(1, .val (.sl 2 (.int .i64))), (5, .ref 0), (6, .val (.int .i64)), (9, .val (.sl 2 (.int .i64))), (10, .val (.int .i64)), (11, .val (.int .i64))], [(0, .row 2 (.int .i64))], 1, []⟩
def osh4kx0 : Shape := ⟨[(5, .ref 0)], [(0, .row 2 (.int .i64))], 1, []⟩
def un4 : (List Int) × Int × (List Int) × Int × Int × (List Int) → sh4.V := fun (x1, x6, x9, x10, x11, y0) => ((x1, ((), (x6, (x9, (x10, (x11, ())))))), (y0, ()))
def fl4 : sh4.V → (List Int) × Int × (List Int) × Int × Int × (List Int) := fun ((x1, (_, (x6, (x9, (x10, (x11, _)))))), (y0, _)) => (x1, x6, x9, x10, x11, y0)
def L (k : Nat) (q : Nat) (s : St) (K : AExit → St → Option R) : Option R := bif Nat.beq q 4 then (match sh4.dec s with | some v => l4 (R := R) k k (fl4 v) (fun y0 => K (.exit 0) (osh4kx0.enc (((), ()), (y0, ())))) | none => none) else (none)
def J (k : Nat) : Inl R := noInl
theorem step4 (k n : Nat) (K : AExit → St → Option R) : ∀ v, aloop (aexec (env k) (J k) (L k) ((findLoop 4 (codeOf Try.f65)).getD .skip)) (normSt [(1, .asis), (5, .row 2 (.int .i64)), (6, .asis), (9, .asis), (10, .asis), (11, .asis)]) (normSt [(5, .asis)]) K (n + 1) (sh4.enc (un4 v)) = s4 (R := R) k (fun w => aloop (aexec (env k) (J k) (L k) ((findLoop 4 (codeOf Try.f65)).getD .skip)) (normSt [(1, .asis), (5, .row 2 (.int .i64)), (6, .asis), (9, .asis), (10, .asis), (11, .asis)]) (normSt [(5, .asis)]) K n (sh4.enc (un4 w))) (fun y0 => K (.exit 0) (osh4kx0.enc (((), ()), (y0, ())))) v := by intro v; kernel_rfl
theorem eq (k : Nat) : ∀ a, aexec (env k) (J k) (L k) (codeOf Try.f65) (begSt [.ro (.sl 2 (.int .i64)), .ro (.sl 2 (.int .i64))] a) (finK (env k) Try.f65 [.ro (.sl 2 (.int .i64)), .ro (.sl 2 (.int .i64))] [.own (.sl 2 (.int .i64))]) = (entry k).fn a := by intro a; kernel_rfl
theorem run4 (k : Nat) (K : AExit → St → Option R) : ∀ n v, aloop (aexec (env k) (J k) (L k) ((findLoop 4 (codeOf Try.f65)).getD .skip)) (normSt [(1, .asis), (5, .row 2 (.int .i64)), (6, .asis), (9, .asis), (10, .asis), (11, .asis)]) (normSt [(5, .asis)]) K n (sh4.enc (un4 v)) = l4 (R := R) k n v (fun y0 => K (.exit 0) (osh4kx0.enc (((), ()), (y0, ())))) := loop_eq (fun n v => aloop (aexec (env k) (J k) (L k) ((findLoop 4 (codeOf Try.f65)).getD .skip)) (normSt [(1, .asis), (5, .row 2 (.int .i64)), (6, .asis), (9, .asis), (10, .asis), (11, .asis)]) (normSt [(5, .asis)]) K n (sh4.enc (un4 v))) (fun n v => l4 (R := R) k n v (fun y0 => K (.exit 0) (osh4kx0.enc (((), ()), (y0, ()))))) (fun X v => s4 (R := R) k X (fun y0 => K (.exit 0) (osh4kx0.enc (((), ()), (y0, ())))) v) (fun _ => rfl) (fun n v => step4 k n K v) (fun n v => rfl)
theorem loops (k : Nat) : LoopsOk (env k) (J k) (L k) (codeOf Try.f65) := by
  intro c an hc han s K r h
  unfold L at h
  by_cases q4 : firstRegion c = 4
  · have h1 := key_eq q4 h
    rw [q4] at hc han
    have e2 : an = ⟨[(1, .asis), (5, .row 2 (.int .i64)), (6, .asis), (9, .asis), (10, .asis), (11, .asis)], [(5, .asis)]⟩ := (Option.some.inj (show some _ = some an from han)).symm
    have e1 : c = (findLoop 4 (codeOf Try.f65)).getD .skip := by rw [hc]; rfl
    cases hd : sh4.dec s with
    | none => rw [hd] at h1; cases h1
    | some v =>
      rw [hd] at h1
      refine ⟨k, ?_⟩
      rw [e1, e2, Shape.dec_enc _ _ _ hd]
      exact (run4 k K k (fl4 v)).trans h1
  have h := not_key q4 h
  cases h
theorem fit (k : Nat) : codeFit (env k) (codeOf Try.f65) = true := by kernel_rfl
theorem lps : (loopsIn (codeOf Try.f65)).map (fun d => findLoop (firstRegion d) (codeOf Try.f65)) = (loopsIn (codeOf Try.f65)).map some := by kernel_rfl
theorem hf : Try.prog.funcs[65]? = some Try.f65 := by kernel_rfl
theorem hb : Try.f65.body = some (codeOf Try.f65) := by kernel_rfl
theorem hn : (Try.f65.name == "runtime.NumGoroutine") = false := by kernel_rfl
theorem hJ (k : Nat) : ∀ C : Ctx, C.P = Try.prog → ∀ r, InlOk C (J k) r := fun C hC r => noInl_ok
theorem sound (k : Nat) : Sound Try.prog 65 (entry k) := func_sound (E := env k) (by kernel_rfl) (by kernel_rfl) (by kernel_rfl) (by kernel_rfl) tbl_nil hf hb hn (fit k) (loops_all lps) (hJ k) (loops k) (eq k)
end impl_lowWinners

namespace impl_LowWinners
def entry (k : Nat) : Entry := ⟨[.ro (.sl 2 (.int .i64)), .ro (.sl 2 (.int .i64))], [.own (.sl 2 (.int .i64)), .own (.int .i64)], fun (a0, (a1, _)) => f k a0 a1⟩
def tbl (k : Nat) : List (Nat × Option Entry) := [(63, some (impl_checkValues.entry k)), (65, some (impl_lowWinners.entry k))]
abbrev R := Res [.own (.sl 2 (.int .i64)), .own (.int .i64)] × Outs [.ro (.sl 2 (.int .i64)), .ro (.sl 2 (.int .i64))]
def env (k : Nat) : Env := ⟨Try.prog, 21, AM.look none (tbl k), AM.look none []⟩
def L (k : Nat) (q : Nat) (s : St) (K : AExit → St → Option R) : Option R := none
def J (k : Nat) : Inl R := noInl
theorem eq (k : Nat) : ∀ a, aexec (env k) (J k) (L k) (codeOf Try.f21) (begSt [.ro (.sl 2 (.int .i64)), .ro (.sl 2 (.int .i64))] a) (finK (env k) Try.f21 [.ro (.sl 2 (.int .i64)), .ro (.sl 2 (.int .i64))] [.own (.sl 2 (.int .i64)), .own (.int .i64)]) = (entry k).fn a := by intro a; kernel_rfl
theorem loops (k : Nat) : LoopsOk (env k) (J k) (L k) (codeOf Try.f21) := by
  intro c an hc han s K r h
  unfold L at h
  cases h
theorem fit (k : Nat) : codeFit (env k) (codeOf Try.f21) = true := by kernel_rfl
theorem lps : (loopsIn (codeOf Try.f21)).map (fun d => findLoop (firstRegion d) (codeOf Try.f21)) = (loopsIn (codeOf Try.f21)).map some := by kernel_rfl
theorem hf : Try.prog.funcs[21]? = some Try.f21 := by kernel_rfl
theorem hb : Try.f21.body = some (codeOf Try.f21) := by kernel_rfl
theorem hn : (Try.f21.name == "runtime.NumGoroutine") = false := by kernel_rfl
theorem hJ (k : Nat) : ∀ C : Ctx, C.P = Try.prog → ∀ r, InlOk C (J k) r := fun C hC r => noInl_ok
theorem sound (k : Nat) : Sound Try.prog 21 (entry k) := func_sound (E := env k) (by kernel_rfl) (by kernel_rfl) (by kernel_rfl) (by kernel_rfl) (tbl_cons (impl_checkValues.sound k) (tbl_cons (impl_lowWinners.sound k) tbl_nil)) hf hb hn (fit k) (loops_all lps) (hJ k) (loops k) (eq k)
end impl_LowWinners

namespace spec_l01In
def entry (k : Nat) : Entry := ⟨[.ro (.int .i64), .ro (.int .i64), .ro (.int .i64)], [.own .bool], fun (a0, (a1, (a2, _))) => f k a0 a1 a2⟩
def tbl (k : Nat) : List (Nat × Option Entry) := []
abbrev R := Res [.own .bool] × Outs [.ro (.int .i64), .ro (.int .i64), .ro (.int .i64)]
def env (k : Nat) : Env := ⟨Try.prog, 15, AM.look none (tbl k), AM.look none []⟩
def L (k : Nat) (q : Nat) (s : St) (K : AExit → St → Option R) : Option R := none
def J (k : Nat) : Inl R := noInl
theorem eq (k : Nat) : ∀ a, aexec (env k) (J k) (L k) (codeOf Try.f57) (begSt [.ro (.int .i64), .ro (.int .i64), .ro (.int .i64)] a) (finK (env k) Try.f57 [.ro (.int .i64), .ro (.int .i64), .ro (.int .i64)] [.own .bool]) = (entry k).fn a := by intro a; kernel_rfl
theorem loops (k : Nat) : LoopsOk (env k) (J k) (L k) (codeOf Try.f57) := by
  intro c an hc han s K r h
  unfold L at h
  cases h
theorem fit (k : Nat) : codeFit (env k) (codeOf Try.f57) = true := by kernel_rfl
theorem lps : (loopsIn (codeOf Try.f57)).map (fun d => findLoop (firstRegion d) (codeOf Try.f57)) = (loopsIn (codeOf Try.f57)).map some := by kernel_rfl
theorem hf : Try.prog.funcs[57]? = some Try.f57 := by kernel_rfl
theorem hb : Try.f57.body = some (codeOf Try.f57) := by kernel_rfl
theorem hn : (Try.f57.name == "runtime.NumGoroutine") = false := by kernel_rfl
theorem hJ (k : Nat) : ∀ C : Ctx, C.P = Try.prog → ∀ r, InlOk C (J k) r := fun C hC r => noInl_ok
theorem sound (k : Nat) : Sound Try.prog 57 (entry k) := func_sound (E := env k) (by kernel_rfl) (by kernel_rfl) (by kernel_rfl) (by kernel_rfl) tbl_nil hf hb hn (fit k) (loops_all lps) (hJ k) (loops k) (eq k)
end spec_l01In

namespace spec_l13Seats
def entry (k : Nat) : Entry := ⟨[.ro (.int .i64)], [.own .bool], fun (a0, _) => f k a0⟩
def tbl (k : Nat) : List (Nat × Option Entry) := [(57, some (spec_l01In.entry k))]
abbrev R := Res [.own .bool] × Outs [.ro (.int .i64)]
def env (k : Nat) : Env := ⟨Try.prog, 5, AM.look none (tbl k), AM.look none []⟩
def L (k : Nat) (q : Nat) (s : St) (K : AExit → St → Option R) : Option R := none
def J (k : Nat) : Inl R := noInl
theorem eq (k : Nat) : ∀ a, aexec (env k) (J k) (L k) (codeOf Try.f54) (begSt [.ro (.int .i64)] a) (finK (env k) Try.f54 [.ro (.int .i64)] [.own .bool]) = (entry k).fn a := by intro a; kernel_rfl
theorem loops (k : Nat) : LoopsOk (env k) (J k) (L k) (codeOf Try.f54) := by
  intro c an hc han s K r h
  unfold L at h
  cases h
theorem fit (k : Nat) : codeFit (env k) (codeOf Try.f54) = true := by kernel_rfl
theorem lps : (loopsIn (codeOf Try.f54)).map (fun d => findLoop (firstRegion d) (codeOf Try.f54)) = (loopsIn (codeOf Try.f54)).map some := by kernel_rfl
theorem hf : Try.prog.funcs[54]? = some Try.f54 := by kernel_rfl
theorem hb : Try.f54.body = some (codeOf Try.f54) := by kernel_rfl
theorem hn : (Try.f54.name == "runtime.NumGoroutine") = false := by kernel_rfl
theorem hJ (k : Nat) : ∀ C : Ctx, C.P = Try.prog → ∀ r, InlOk C (J k) r := fun C hC r => noInl_ok
theorem sound (k : Nat) : Sound Try.prog 54 (entry k) := func_sound (E := env k) (by kernel_rfl) (by kernel_rfl) (by kernel_rfl) (by kernel_rfl) (tbl_cons (spec_l01In.sound k) tbl_nil) hf hb hn (fit k) (loops_all lps) (hJ k) (loops k) (eq k)
end spec_l13Seats

namespace spec_l01Rises
def entry (k : Nat) : Entry := ⟨[.ro (.sl 2 (.int .i64)), .ro (.int .i64)], [.own .bool], fun (a0, (a1, _)) => f k a0 a1⟩
def tbl (k : Nat) : List (Nat × Option Entry) := [(57, some (spec_l01In.entry k))]
abbrev R := Res [.own .bool] × Outs [.ro (.sl 2 (.int .i64)), .ro (.int .i64)]
def env (k : Nat) : Env := ⟨Try.prog, 36, AM.look none (tbl k), AM.look none [(2, some ⟨[(0, .asis), (1, .asis), (5, .asis)], [(4, .asis)]⟩)]⟩
def sh2 : Shape := ⟨[(0, .val (.sl 2 (.int .i64))), (1, .val (.int .i64)), (5, .val (.int .i64))], [], 0, []⟩
def osh2kx0 : Shape := ⟨[(4, .undef)], [], 0, []⟩
def osh2kr : Shape := ⟨[(4, .val .bool)], [], 0, []⟩
def un2 : (List Int) × Int × Int → sh2.V := fun (x0, x1, x5) => ((x0, (x1, (x5, ()))), ())
def fl2 : sh2.V → (List Int) × Int × Int := fun ((x0, (x1, (x5, _))), _) => (x0, x1, x5)
def L (k : Nat) (q : Nat) (s : St) (K : AExit → St → Option R) : Option R := bif Nat.beq q 2 then (match sh2.dec s with | some v => l2 (R := R) k k (fl2 v) (fun (_ : Unit) => K (.exit 0) (osh2kx0.enc (((), ()), ()))) (fun x4 => K .ret (osh2kr.enc ((x4, ()), ()))) | none => none) else (none)
def J (k : Nat) : Inl R := noInl
theorem step2 (k n : Nat) (K : AExit → St → Option R) : ∀ v, aloop (aexec (env k) (J k) (L k) ((findLoop 2 (codeOf Try.f93)).getD .skip)) (normSt [(0, .asis), (1, .asis), (5, .asis)]) (normSt [(4, .asis)]) K (n + 1) (sh2.enc (un2 v)) = s2 (R := R) k (fun w => aloop (aexec (env k) (J k) (L k) ((findLoop 2 (codeOf Try.f93)).getD .skip)) (normSt [(0, .asis), (1, .asis), (5, .asis)]) (normSt [(4, .asis)]) K n (sh2.enc (un2 w))) (fun (_ : Unit) => K (.exit 0) (osh2kx0.enc (((), ()), ()))) (fun x4 => K .ret (osh2kr.enc ((x4, ()), ()))) v := by intro v; kernel_rfl
theorem eq (k : Nat) : ∀ a, aexec (env k) (J k) (L k) (codeOf Try.f93) (begSt [.ro (.sl 2 (.int .i64)), .ro (.int .i64)] a) (finK (env k) Try.f93 [.ro (.sl 2 (.int .i64)), .ro (.int .i64)] [.own .bool]) = (entry k).fn a := by intro a; kernel_rfl
theorem run2 (k : Nat) (K : AExit → St → Option R) : ∀ n v, aloop (aexec (env k) (J k) (L k) ((findLoop 2 (codeOf Try.f93)).getD .skip)) (normSt [(0, .asis), (1, .asis), (5, .asis)]) (normSt [(4, .asis)]) K n (sh2.enc (un2 v)) = l2 (R := R) k n v (fun (_ : Unit) => K (.exit 0) (osh2kx0.enc (((), ()), ()))) (fun x4 => K .ret (osh2kr.enc ((x4, ()), ()))) := loop_eq (fun n v => aloop (aexec (env k) (J k) (L k) ((findLoop 2 (codeOf Try.f93)).getD .skip)) (normSt [(0, .asis), (1, .asis), (5, .asis)]) (normSt [(4, .asis)]) K n (sh2.enc (un2 v))) (fun n v => l2 (R := R) k n v (fun (_ : Unit) => K (.exit 0) (osh2kx0.enc (((), ()), ()))) (fun x4 => K .ret (osh2kr.enc ((x4, ()), ())))) (fun X v => s2 (R := R) k X (fun (_ : Unit) => K (.exit 0) (osh2kx0.enc (((), ()), ()))) (fun x4 => K .ret (osh2kr.enc ((x4, ()), ()))) v) (fun _ => rfl) (fun n v => step2 k n K v) (fun n v => rfl)
theorem loops (k : Nat) : LoopsOk (env k) (J k) (L k) (codeOf Try.f93) := by
  intro c an hc han s K r h
  unfold L at h
  by_cases q2 : firstRegion c = 2
  · have h1 := key_eq q2 h
    rw [q2] at hc han
    have e2 : an = ⟨[(0, .asis), (1, .asis), (5, .asis)], [(4, .asis)]⟩ := (Option.some.inj (show some _ = some an from han)).symm
    have e1 : c = (findLoop 2 (codeOf Try.f93)).getD .skip := by rw [hc]; rfl
    cases hd : sh2.dec s with
    | none => rw [hd] at h1; cases h1
    | some v =>
      rw [hd] at h1
      refine ⟨k, ?_⟩
      rw [e1, e2, Shape.dec_enc _ _ _ hd]
      exact (run2 k K k (fl2 v)).trans h1
  have h := not_key q2 h
  cases h
theorem fit (k : Nat) : codeFit (env k) (codeOf Try.f93) = true := by kernel_rfl
theorem lps : (loopsIn (codeOf Try.f93)).map (fun d => findLoop (firstRegion d) (codeOf Try.f93)) = (loopsIn (codeOf Try.f93)).map some := by kernel_rfl
theorem hf : Try.prog.funcs[93]? = some Try.f93 := by kernel_rfl
theorem hb : Try.f93.body = some (codeOf Try.f93) := by kernel_rfl
theorem hn : (Try.f93.name == "runtime.NumGoroutine") = false := by kernel_rfl
theorem hJ (k : Nat) : ∀ C : Ctx, C.P = Try.prog → ∀ r, InlOk C (J k) r := fun C hC r => noInl_ok
theorem sound (k : Nat) : Sound Try.prog 93 (entry k) := func_sound (E := env k) (by kernel_rfl) (by kernel_rfl) (by kernel_rfl) (by kernel_rfl) (tbl_cons (spec_l01In.sound k) tbl_nil) hf hb hn (fit k) (loops_all lps) (hJ k) (loops k) (eq k)
end spec_l01Rises

namespace spec_l13Winners
def entry (k : Nat) : Entry := ⟨[.ro (.sl 2 (.int .i64)), .ro (.int .i64)], [.own .bool], fun (a0, (a1, _)) => f k a0 a1⟩
def tbl (k : Nat) : List (Nat × Option Entry) := [(93, some (spec_l01Rises.entry k))]
abbrev R := Res [.own .bool] × Outs [.ro (.sl 2 (.int .i64)), .ro (.int .i64)]
def env (k : Nat) : Env := ⟨Try.prog, 13, AM.look none (tbl k), AM.look none []⟩
def L (k : Nat) (q : Nat) (s : St) (K : AExit → St → Option R) : Option R := none
def J (k : Nat) : Inl R := noInl
theorem eq (k : Nat) : ∀ a, aexec (env k) (J k) (L k) (codeOf Try.f55) (begSt [.ro (.sl 2 (.int .i64)), .ro (.int .i64)] a) (finK (env k) Try.f55 [.ro (.sl 2 (.int .i64)), .ro (.int .i64)] [.own .bool]) = (entry k).fn a := by intro a; kernel_rfl
theorem loops (k : Nat) : LoopsOk (env k) (J k) (L k) (codeOf Try.f55) := by
  intro c an hc han s K r h
  unfold L at h
  cases h
theorem fit (k : Nat) : codeFit (env k) (codeOf Try.f55) = true := by kernel_rfl
theorem lps : (loopsIn (codeOf Try.f55)).map (fun d => findLoop (firstRegion d) (codeOf Try.f55)) = (loopsIn (codeOf Try.f55)).map some := by kernel_rfl
theorem hf : Try.prog.funcs[55]? = some Try.f55 := by kernel_rfl
theorem hb : Try.f55.body = some (codeOf Try.f55) := by kernel_rfl
theorem hn : (Try.f55.name == "runtime.NumGoroutine") = false := by kernel_rfl
theorem hJ (k : Nat) : ∀ C : Ctx, C.P = Try.prog → ∀ r, InlOk C (J k) r := fun C hC r => noInl_ok
theorem sound (k : Nat) : Sound Try.prog 55 (entry k) := func_sound (E := env k) (by kernel_rfl) (by kernel_rfl) (by kernel_rfl) (by kernel_rfl) (tbl_cons (spec_l01Rises.sound k) tbl_nil) hf hb hn (fit k) (loops_all lps) (hJ k) (loops k) (eq k)
end spec_l13Winners

namespace spec_l13Amount
def entry (k : Nat) : Entry := ⟨[.ro (.int .i64)], [.own .bool], fun (a0, _) => f k a0⟩
def tbl (k : Nat) : List (Nat × Option Entry) := [(57, some (spec_l01In.entry k))]
abbrev R := Res [.own .bool] × Outs [.ro (.int .i64)]
def env (k : Nat) : Env := ⟨Try.prog, 5, AM.look none (tbl k), AM.look none []⟩
def L (k : Nat) (q : Nat) (s : St) (K : AExit → St → Option R) : Option R := none
def J (k : Nat) : Inl R := noInl
theorem eq (k : Nat) : ∀ a, aexec (env k) (J k) (L k) (codeOf Try.f56) (begSt [.ro (.int .i64)] a) (finK (env k) Try.f56 [.ro (.int .i64)] [.own .bool]) = (entry k).fn a := by intro a; kernel_rfl
theorem loops (k : Nat) : LoopsOk (env k) (J k) (L k) (codeOf Try.f56) := by
  intro c an hc han s K r h
  unfold L at h
  cases h
theorem fit (k : Nat) : codeFit (env k) (codeOf Try.f56) = true := by kernel_rfl
theorem lps : (loopsIn (codeOf Try.f56)).map (fun d => findLoop (firstRegion d) (codeOf Try.f56)) = (loopsIn (codeOf Try.f56)).map some := by kernel_rfl
theorem hf : Try.prog.funcs[56]? = some Try.f56 := by kernel_rfl
theorem hb : Try.f56.body = some (codeOf Try.f56) := by kernel_rfl
theorem hn : (Try.f56.name == "runtime.NumGoroutine") = false := by kernel_rfl
theorem hJ (k : Nat) : ∀ C : Ctx, C.P = Try.prog → ∀ r, InlOk C (J k) r := fun C hC r => noInl_ok
theorem sound (k : Nat) : Sound Try.prog 56 (entry k) := func_sound (E := env k) (by kernel_rfl) (by kernel_rfl) (by kernel_rfl) (by kernel_rfl) (tbl_cons (spec_l01In.sound k) tbl_nil) hf hb hn (fit k) (loops_all lps) (hJ k) (loops k) (eq k)
end spec_l13Amount

namespace spec_l13Values
def entry (k : Nat) : Entry := ⟨[.ro (.sl 2 (.int .i64)), .ro (.int .i64)], [.own .bool], fun (a0, (a1, _)) => f k a0 a1⟩
def tbl (k : Nat) : List (Nat × Option Entry) := []
abbrev R := Res [.own .bool] × Outs [.ro (.sl 2 (.int .i64)), .ro (.int .i64)]
def env (k : Nat) : Env := ⟨Try.prog, 21, AM.look none (tbl k), AM.look none [(2, some ⟨[(0, .asis), (1, .asis), (5, .asis)], [(0, .asis), (1, .asis), (4, .asis)]⟩)]⟩
def sh2 : Shape := ⟨[(0, .val (.sl 2 (.int .i64))), (1, .val (.int .i64)), (5, .val (.int .i64))], [], 0, []⟩
def osh2kx0 : Shape := ⟨[(0, .val (.sl 2 (.int .i64))), (1, .val (.int .i64)), (4, .undef)], [], 0, []⟩
def osh2kr : Shape := ⟨[(0, .val (.sl 2 (.int .i64))), (1, .val (.int .i64)), (4, .val .bool)], [], 0, []⟩
def un2 : (List Int) × Int × Int → sh2.V := fun (x0, x1, x5) => ((x0, (x1, (x5, ()))), ())
def fl2 : sh2.V → (List Int) × Int × Int := fun ((x0, (x1, (x5, _))), _) => (x0, x1, x5)
def L (k : Nat) (q : Nat) (s : St) (K : AExit → St → Option R) : Option R := bif Nat.beq q 2 then (match sh2.dec s with | some v => l2 (R := R) k k (fl2 v) (fun (x0, x1) => K (.exit 0) (osh2kx0.enc ((x0, (x1, ((), ()))), ()))) (fun (x0, x1, x4) => K .ret (osh2kr.enc ((x0, (x1, (x4, ()))), ()))) | none => none) else (none)
def J (k : Nat) : Inl R := noInl
theorem step2 (k n : Nat) (K : AExit → St → Option R) : ∀ v, aloop (aexec (env k) (J k) (L k) ((findLoop 2 (codeOf Try.f79)).getD .skip)) (normSt [(0, .asis), (1, .asis), (5, .asis)]) (normSt [(0, .asis), (1, .asis), (4, .asis)]) K (n + 1) (sh2.enc (un2 v)) = s2 (R := R) k (fun w => aloop (aexec (env k) (J k) (L k) ((findLoop 2 (codeOf Try.f79)).getD .skip)) (normSt [(0, .asis), (1, .asis), (5, .asis)]) (normSt [(0, .asis), (1, .asis), (4, .asis)]) K n (sh2.enc (un2 w))) (fun (x0, x1) => K (.exit 0) (osh2kx0.enc ((x0, (x1, ((), ()))), ()))) (fun (x0, x1, x4) => K .ret (osh2kr.enc ((x0, (x1, (x4, ()))), ()))) v := by intro v; kernel_rfl
theorem eq (k : Nat) : ∀ a, aexec (env k) (J k) (L k) (codeOf Try.f79) (begSt [.ro (.sl 2 (.int .i64)), .ro (.int .i64)] a) (finK (env k) Try.f79 [.ro (.sl 2 (.int .i64)), .ro (.int .i64)] [.own .bool]) = (entry k).fn a := by intro a; kernel_rfl
theorem run2 (k : Nat) (K : AExit → St → Option R) : ∀ n v, aloop (aexec (env k) (J k) (L k) ((findLoop 2 (codeOf Try.f79)).getD .skip)) (normSt [(0, .asis), (1, .asis), (5, .asis)]) (normSt [(0, .asis), (1, .asis), (4, .asis)]) K n (sh2.enc (un2 v)) = l2 (R := R) k n v (fun (x0, x1) => K (.exit 0) (osh2kx0.enc ((x0, (x1, ((), ()))), ()))) (fun (x0, x1, x4) => K .ret (osh2kr.enc ((x0, (x1, (x4, ()))), ()))) := loop_eq (fun n v => aloop (aexec (env k) (J k) (L k) ((findLoop 2 (codeOf Try.f79)).getD .skip)) (normSt [(0, .asis), (1, .asis), (5, .asis)]) (normSt [(0, .asis), (1, .asis), (4, .asis)]) K n (sh2.enc (un2 v))) (fun n v => l2 (R := R) k n v (fun (x0, x1) => K (.exit 0) (osh2kx0.enc ((x0, (x1, ((), ()))), ()))) (fun (x0, x1, x4) => K .ret (osh2kr.enc ((x0, (x1, (x4, ()))), ())))) (fun X v => s2 (R := R) k X (fun (x0, x1) => K (.exit 0) (osh2kx0.enc ((x0, (x1, ((), ()))), ()))) (fun (x0, x1, x4) => K .ret (osh2kr.enc ((x0, (x1, (x4, ()))), ()))) v) (fun _ => rfl) (fun n v => step2 k n K v) (fun n v => rfl)
theorem loops (k : Nat) : LoopsOk (env k) (J k) (L k) (codeOf Try.f79) := by
  intro c an hc han s K r h
  unfold L at h
  by_cases q2 : firstRegion c = 2
  · have h1 := key_eq q2 h
    rw [q2] at hc han
    have e2 : an = ⟨[(0, .asis), (1, .asis), (5, .asis)], [(0, .asis), (1, .asis), (4, .asis)]⟩ := (Option.some.inj (show some _ = some an from han)).symm
    have e1 : c = (findLoop 2 (codeOf Try.f79)).getD .skip := by rw [hc]; rfl
    cases hd : sh2.dec s with
    | none => rw [hd] at h1; cases h1
    | some v =>
      rw [hd] at h1
      refine ⟨k, ?_⟩
      rw [e1, e2, Shape.dec_enc _ _ _ hd]
      exact (run2 k K k (fl2 v)).trans h1
  have h := not_key q2 h
  cases h
theorem fit (k : Nat) : codeFit (env k) (codeOf Try.f79) = true := by kernel_rfl
theorem lps : (loopsIn (codeOf Try.f79)).map (fun d => findLoop (firstRegion d) (codeOf Try.f79)) = (loopsIn (codeOf Try.f79)).map some := by kernel_rfl
theorem hf : Try.prog.funcs[79]? = some Try.f79 := by kernel_rfl
theorem hb : Try.f79.body = some (codeOf Try.f79) := by kernel_rfl
theorem hn : (Try.f79.name == "runtime.NumGoroutine") = false := by kernel_rfl
theorem hJ (k : Nat) : ∀ C : Ctx, C.P = Try.prog → ∀ r, InlOk C (J k) r := fun C hC r => noInl_ok
theorem sound (k : Nat) : Sound Try.prog 79 (entry k) := func_sound (E := env k) (by kernel_rfl) (by kernel_rfl) (by kernel_rfl) (by kernel_rfl) tbl_nil hf hb hn (fit k) (loops_all lps) (hJ k) (loops k) (eq k)
end spec_l13Values

namespace spec_l13Pots
def entry (k : Nat) : Entry := ⟨[.ro (.sl 34 (.pair (.int .i64) (.pair (.sl 2 (.int .i64)) .unit))), .ro (.sl 2 (.int .i64)), .ro (.sl 2 (.int .i64)), .ro (.int .i64)], [.own (.int .i64)], fun (a0, (a1, (a2, (a3, _)))) => f k a0 a1 a2 a3⟩
def tbl (k : Nat) : List (Nat × Option Entry) := [(54, some (spec_l13Seats.entry k)), (55, some (spec_l13Winners.entry k)), (56, some (spec_l13Amount.entry k)), (57, some (spec_l01In.entry k)), (79, some (spec_l13Values.entry k))]
abbrev R := Res [.own (.int .i64)] × Outs [.ro (.sl 34 (.pair (.int .i64) (.pair (.sl 2 (.int .i64)) .unit))), .ro (.sl 2 (.int .i64)), .ro (.sl 2 (.int .i64)), .ro (.int .i64)]
def env (k : Nat) : Env := ⟨Try.prog, 56, AM.look none (tbl k), AM.look none [(5, some ⟨[(0, .asis), (1, .asis), (2, .asis), (3, .asis), (9, .asis), (10, .asis)], [(1, .asis), (2, .asis), (3, .asis), (8, .asis), (9, .asis)]⟩)]⟩
def sh5 : Shape := ⟨[(0, .val (.sl 34 (.pair (.int .i64) (.pair (.sl 2 (.int .i64)) .unit)))), (1, .val (.sl 2 (.int .i64))), (2, .val (.sl 2 (.int .i64))), (3, .val (.int .i64)), (9, .val (.int .i64)), (10, .val (.int .i64))], [], 0, []⟩
def osh5kx0 : Shape := ⟨[(1, .val (.sl 2 (.int .i64))), (2, .val (.sl 2 (.int .i64))), (3, .val (.int .i64)), (8, .undef), (9, .val (.int .i64))], [], 0, []⟩
def osh5kr : Shape := ⟨[(1, .val (.sl 2 (.int .i64))), (2, .val (.sl 2 (.int .i64))), (3, .val (.int .i64)), (8, .val (.int .i64)), (9, .val (.int .i64))], [], 0, []⟩
def un5 : (List (Int × ((List Int) × Unit))) × (List Int) × (List Int) × Int × Int × Int → sh5.V := fun (x0, x1, x2, x3, x9, x10) => ((x0, (x1, (x2, (x3, (x9, (x10, ())))))), ())
def fl5 : sh5.V → (List (Int × ((List Int) × Unit))) × (List Int) × (List Int) × Int × Int × Int := fun ((x0, (x1, (x2, (x3, (x9, (x10, _)))))), _) => (x0, x1, x2, x3, x9, x10)
def L (k : Nat) (q : Nat) (s : St) (K : AExit → St → Option R) : Option R := bif Nat.beq q 5 then (match sh5.dec s with | some v => l5 (R := R) k k (fl5 v) (fun (x1, x2, x3, x9) => K (.exit 0) (osh5kx0.enc ((x1, (x2, (x3, ((), (x9, ()))))), ()))) (fun (x1, x2, x3, x8, x9) => K .ret (osh5kr.enc ((x1, (x2, (x3, (x8, (x9, ()))))), ()))) | none => none) else (none)
def J (k : Nat) : Inl R := noInl
theorem step5 (k n : Nat) (K : AExit → St → Option R) : ∀ v, aloop (aexec (env k) (J k) (L k) ((findLoop 5 (codeOf Try.f67)).getD .skip)) (normSt [(0, .asis), (1, .asis), (2, .asis), (3, .asis), (9, .asis), (10, .asis)]) (normSt [(1, .asis), (2, .asis), (3, .asis), (8, .asis), (9, .asis)]) K (n + 1) (sh5.enc (un5 v)) = s5 (R := R) k (fun w => aloop (aexec (env k) (J k) (L k) ((findLoop 5 (codeOf Try.f67)).getD .skip)) (normSt [(0, .asis), (1, .asis), (2, .asis), (3, .asis), (9, .asis), (10, .asis)]) (normSt [(1, .asis), (2, .asis), (3, .asis), (8, .asis), (9, .asis)]) K n (sh5.enc (un5 w))) (fun (x1, x2, x3, x9) => K (.exit 0) (osh5kx0.enc ((x1, (x2, (x3, ((), (x9, ()))))), ()))) (fun (x1, x2, x3, x8, x9) => K .ret (osh5kr.enc ((x1, (x2, (x3, (x8, (x9, ()))))), ()))) v := by intro v; kernel_rfl
theorem eq (k : Nat) : ∀ a, aexec (env k) (J k) (L k) (codeOf Try.f67) (begSt [.ro (.sl 34 (.pair (.int .i64) (.pair (.sl 2 (.int .i64)) .unit))), .ro (.sl 2 (.int .i64)), .ro (.sl 2 (.int .i64)), .ro (.int .i64)] a) (finK (env k) Try.f67 [.ro (.sl 34 (.pair (.int .i64) (.pair (.sl 2 (.int .i64)) .unit))), .ro (.sl 2 (.int .i64)), .ro (.sl 2 (.int .i64)), .ro (.int .i64)] [.own (.int .i64)]) = (entry k).fn a := by intro a; kernel_rfl
theorem run5 (k : Nat) (K : AExit → St → Option R) : ∀ n v, aloop (aexec (env k) (J k) (L k) ((findLoop 5 (codeOf Try.f67)).getD .skip)) (normSt [(0, .asis), (1, .asis), (2, .asis), (3, .asis), (9, .asis), (10, .asis)]) (normSt [(1, .asis), (2, .asis), (3, .asis), (8, .asis), (9, .asis)]) K n (sh5.enc (un5 v)) = l5 (R := R) k n v (fun (x1, x2, x3, x9) => K (.exit 0) (osh5kx0.enc ((x1, (x2, (x3, ((), (x9, ()))))), ()))) (fun (x1, x2, x3, x8, x9) => K .ret (osh5kr.enc ((x1, (x2, (x3, (x8, (x9, ()))))), ()))) := loop_eq (fun n v => aloop (aexec (env k) (J k) (L k) ((findLoop 5 (codeOf Try.f67)).getD .skip)) (normSt [(0, .asis), (1, .asis), (2, .asis), (3, .asis), (9, .asis), (10, .asis)]) (normSt [(1, .asis), (2, .asis), (3, .asis), (8, .asis), (9, .asis)]) K n (sh5.enc (un5 v))) (fun n v => l5 (R := R) k n v (fun (x1, x2, x3, x9) => K (.exit 0) (osh5kx0.enc ((x1, (x2, (x3, ((), (x9, ()))))), ()))) (fun (x1, x2, x3, x8, x9) => K .ret (osh5kr.enc ((x1, (x2, (x3, (x8, (x9, ()))))), ())))) (fun X v => s5 (R := R) k X (fun (x1, x2, x3, x9) => K (.exit 0) (osh5kx0.enc ((x1, (x2, (x3, ((), (x9, ()))))), ()))) (fun (x1, x2, x3, x8, x9) => K .ret (osh5kr.enc ((x1, (x2, (x3, (x8, (x9, ()))))), ()))) v) (fun _ => rfl) (fun n v => step5 k n K v) (fun n v => rfl)
theorem loops (k : Nat) : LoopsOk (env k) (J k) (L k) (codeOf Try.f67) := by
  intro c an hc han s K r h
  unfold L at h
  by_cases q5 : firstRegion c = 5
  · have h1 := key_eq q5 h
    rw [q5] at hc han
    have e2 : an = ⟨[(0, .asis), (1, .asis), (2, .asis), (3, .asis), (9, .asis), (10, .asis)], [(1, .asis), (2, .asis), (3, .asis), (8, .asis), (9, .asis)]⟩ := (Option.some.inj (show some _ = some an from han)).symm
    have e1 : c = (findLoop 5 (codeOf Try.f67)).getD .skip := by rw [hc]; rfl
    cases hd : sh5.dec s with
    | none => rw [hd] at h1; cases h1
    | some v =>
      rw [hd] at h1
      refine ⟨k, ?_⟩
      rw [e1, e2, Shape.dec_enc _ _ _ hd]
      exact (run5 k K k (fl5 v)).trans h1
  have h := not_key q5 h
  cases h
theorem fit (k : Nat) : codeFit (env k) (codeOf Try.f67) = true := by kernel_rfl
theorem lps : (loopsIn (codeOf Try.f67)).map (fun d => findLoop (firstRegion d) (codeOf Try.f67)) = (loopsIn (codeOf Try.f67)).map some := by kernel_rfl
theorem hf : Try.prog.funcs[67]? = some Try.f67 := by kernel_rfl
theorem hb : Try.f67.body = some (codeOf Try.f67) := by kernel_rfl
theorem hn : (Try.f67.name == "runtime.NumGoroutine") = false := by kernel_rfl
theorem hJ (k : Nat) : ∀ C : Ctx, C.P = Try.prog → ∀ r, InlOk C (J k) r := fun C hC r => noInl_ok
theorem sound (k : Nat) : Sound Try.prog 67 (entry k) := func_sound (E := env k) (by kernel_rfl) (by kernel_rfl) (by kernel_rfl) (by kernel_rfl) (tbl_cons (spec_l13Seats.sound k) (tbl_cons (spec_l13Winners.sound k) (tbl_cons (spec_l13Amount.sound k) (tbl_cons (spec_l01In.sound k) (tbl_cons (spec_l13Values.sound k) tbl_nil))))) hf hb hn (fit k) (loops_all lps) (hJ k) (loops k) (eq k)
end spec_l13Pots

namespace spec_l01Has
def entry (k : Nat) : Entry := ⟨[.ro (.sl 2 (.int .i64)), .ro (.int .i64)], [.own .bool], fun (a0, (a1, _)) => f k a0 a1⟩
def tbl (k : Nat) : List (Nat × Option Entry) := []
abbrev R := Res [.own .bool] × Outs [.ro (.sl 2 (.int .i64)), .ro (.int .i64)]
def env (k : Nat) : Env := ⟨Try.prog, 18, AM.look none (tbl k), AM.look none [(2, some ⟨[(0, .asis), (1, .asis), (5, .asis)], [(4, .asis)]⟩)]⟩
def sh2 : Shape := ⟨[(0, .val (.sl 2 (.int .i64))), (1, .val (.int .i64)), (5, .val (.int .i64))], [], 0, []⟩
def osh2kx0 : Shape := ⟨[(4, .undef)], [], 0, []⟩
def osh2kr : Shape := ⟨[(4, .val .bool)], [], 0, []⟩
def un2 : (List Int) × Int × Int → sh2.V := fun (x0, x1, x5) => ((x0, (x1, (x5, ()))), ())
def fl2 : sh2.V → (List Int) × Int × Int := fun ((x0, (x1, (x5, _))), _) => (x0, x1, x5)
def L (k : Nat) (q : Nat) (s : St) (K : AExit → St → Option R) : Option R := bif Nat.beq q 2 then (match sh2.dec s with | some v => l2 (R := R) k k (fl2 v) (fun (_ : Unit) => K (.exit 0) (osh2kx0.enc (((), ()), ()))) (fun x4 => K .ret (osh2kr.enc ((x4, ()), ()))) | none => none) else (none)
def J (k : Nat) : Inl R := noInl
theorem step2 (k n : Nat) (K : AExit → St → Option R) : ∀ v, aloop (aexec (env k) (J k) (L k) ((findLoop 2 (codeOf Try.f94)).getD .skip)) (normSt [(0, .asis), (1, .asis), (5, .asis)]) (normSt [(4, .asis)]) K (n + 1) (sh2.enc (un2 v)) = s2 (R := R) k (fun w => aloop (aexec (env k) (J k) (L k) ((findLoop 2 (codeOf Try.f94)).getD .skip)) (normSt [(0, .asis), (1, .asis), (5, .asis)]) (normSt [(4, .asis)]) K n (sh2.enc (un2 w))) (fun (_ : Unit) => K (.exit 0) (osh2kx0.enc (((), ()), ()))) (fun x4 => K .ret (osh2kr.enc ((x4, ()), ()))) v := by intro v; kernel_rfl
theorem eq (k : Nat) : ∀ a, aexec (env k) (J k) (L k) (codeOf Try.f94) (begSt [.ro (.sl 2 (.int .i64)), .ro (.int .i64)] a) (finK (env k) Try.f94 [.ro (.sl 2 (.int .i64)), .ro (.int .i64)] [.own .bool]) = (entry k).fn a := by intro a; kernel_rfl
theorem run2 (k : Nat) (K : AExit → St → Option R) : ∀ n v, aloop (aexec (env k) (J k) (L k) ((findLoop 2 (codeOf Try.f94)).getD .skip)) (normSt [(0, .asis), (1, .asis), (5, .asis)]) (normSt [(4, .asis)]) K n (sh2.enc (un2 v)) = l2 (R := R) k n v (fun (_ : Unit) => K (.exit 0) (osh2kx0.enc (((), ()), ()))) (fun x4 => K .ret (osh2kr.enc ((x4, ()), ()))) := loop_eq (fun n v => aloop (aexec (env k) (J k) (L k) ((findLoop 2 (codeOf Try.f94)).getD .skip)) (normSt [(0, .asis), (1, .asis), (5, .asis)]) (normSt [(4, .asis)]) K n (sh2.enc (un2 v))) (fun n v => l2 (R := R) k n v (fun (_ : Unit) => K (.exit 0) (osh2kx0.enc (((), ()), ()))) (fun x4 => K .ret (osh2kr.enc ((x4, ()), ())))) (fun X v => s2 (R := R) k X (fun (_ : Unit) => K (.exit 0) (osh2kx0.enc (((), ()), ()))) (fun x4 => K .ret (osh2kr.enc ((x4, ()), ()))) v) (fun _ => rfl) (fun n v => step2 k n K v) (fun n v => rfl)
theorem loops (k : Nat) : LoopsOk (env k) (J k) (L k) (codeOf Try.f94) := by
  intro c an hc han s K r h
  unfold L at h
  by_cases q2 : firstRegion c = 2
  · have h1 := key_eq q2 h
    rw [q2] at hc han
    have e2 : an = ⟨[(0, .asis), (1, .asis), (5, .asis)], [(4, .asis)]⟩ := (Option.some.inj (show some _ = some an from han)).symm
    have e1 : c = (findLoop 2 (codeOf Try.f94)).getD .skip := by rw [hc]; rfl
    cases hd : sh2.dec s with
    | none => rw [hd] at h1; cases h1
    | some v =>
      rw [hd] at h1
      refine ⟨k, ?_⟩
      rw [e1, e2, Shape.dec_enc _ _ _ hd]
      exact (run2 k K k (fl2 v)).trans h1
  have h := not_key q2 h
  cases h
theorem fit (k : Nat) : codeFit (env k) (codeOf Try.f94) = true := by kernel_rfl
theorem lps : (loopsIn (codeOf Try.f94)).map (fun d => findLoop (firstRegion d) (codeOf Try.f94)) = (loopsIn (codeOf Try.f94)).map some := by kernel_rfl
theorem hf : Try.prog.funcs[94]? = some Try.f94 := by kernel_rfl
theorem hb : Try.f94.body = some (codeOf Try.f94) := by kernel_rfl
theorem hn : (Try.f94.name == "runtime.NumGoroutine") = false := by kernel_rfl
theorem hJ (k : Nat) : ∀ C : Ctx, C.P = Try.prog → ∀ r, InlOk C (J k) r := fun C hC r => noInl_ok
theorem sound (k : Nat) : Sound Try.prog 94 (entry k) := func_sound (E := env k) (by kernel_rfl) (by kernel_rfl) (by kernel_rfl) (by kernel_rfl) tbl_nil hf hb hn (fit k) (loops_all lps) (hJ k) (loops k) (eq k)
end spec_l01Has

namespace spec_l13Split
def entry (k : Nat) : Entry := ⟨[.ro (.int .i64), .ro (.sl 2 (.int .i64)), .ro (.int .i64), .ro (.int .i64)], [.own (.sl 2 (.int .i64))], fun (a0, (a1, (a2, (a3, _)))) => f k a0 a1 a2 a3⟩
def tbl (k : Nat) : List (Nat × Option Entry) := [(94, some (spec_l01Has.entry k))]
abbrev R := Res [.own (.sl 2 (.int .i64))] × Outs [.ro (.int .i64), .ro (.sl 2 (.int .i64)), .ro (.int .i64), .ro (.int .i64)]
def env (k : Nat) : Env := ⟨Try.prog, 51, AM.look none (tbl k), AM.look none [(5, some ⟨[(0, .asis), (1, .asis), (2, .asis), (3, .asis), (9, .asis), (10, .asis), (11, .asis), (12, .asis)], [(9, .asis)]⟩)]⟩
def sh5 : Shape := ⟨[(0, .val (.int .i64)), (1, .val (.sl 2 (.int .i64))), (2, .val (.int .i64)), (3, .val (.int .i64)), (9, .ref 0), (10, .val (.int .i64)), (11, .val (.int .i64)), (12, .val (.int .i64))], [(0, .row 2 (.int .i64))], 1, []⟩
def osh5kx0 : Shape := ⟨[(9, .ref 0)], [(0, .row 2 (.int .i64))], 1, []⟩
def un5 : Int × (List Int) × Int × Int × Int × Int × Int × (List Int) → sh5.V := fun (x0, x1, x2, x3, x10, x11, x12, y0) => ((x0, (x1, (x2, (x3, ((), (x10, (x11, (x12, ())))))))), (y0, ()))
def fl5 : sh5.V → Int × (List Int) × Int × Int × Int × Int × Int × (List Int) := fun ((x0, (x1, (x2, (x3, (_, (x10, (x11, (x12, _)))))))), (y0, _)) => (x0, x1, x2, x3, x10, x11, x12, y0)
def L (k : Nat) (q : Nat) (s : St) (K : AExit → St → Option R) : Option R := bif Nat.beq q 5 then (match sh5.dec s with | some v => l5 (R := R) k k (fl5 v) (fun y0 => K (.exit 0) (osh5kx0.enc (((), ()), (y0, ())))) | none => none) else (none)
def J (k : Nat) : Inl R := noInl
theorem step5 (k n : Nat) (K : AExit → St → Option R) : ∀ v, aloop (aexec (env k) (J k) (L k) ((findLoop 5 (codeOf Try.f58)).getD .skip)) (normSt [(0, .asis), (1, .asis), (2, .asis), (3, .asis), (9, .asis), (10, .asis), (11, .asis), (12, .asis)]) (normSt [(9, .asis)]) K (n + 1) (sh5.enc (un5 v)) = s5 (R := R) k (fun w => aloop (aexec (env k) (J k) (L k) ((findLoop 5 (codeOf Try.f58)).getD .skip)) (normSt [(0, .asis), (1, .asis), (2, .asis), (3, .asis), (9, .asis), (10, .asis), (11, .asis), (12, .asis)]) (normSt [(9, .asis)]) K n (sh5.enc (un5 w))) (fun y0 => K (.exit 0) (osh5kx0.enc (((), ()), (y0, ())))) v := by intro v; kernel_rfl
theorem eq (k : Nat) : ∀ a, aexec (env k) (J k) (L k) (codeOf Try.f58) (begSt [.ro (.int .i64), .ro (.sl 2 (.int .i64)), .ro (.int .i64), .ro (.int .i64)] a) (finK (env k) Try.f58 [.ro (.int .i64), .ro (.sl 2 (.int .i64)), .ro (.int .i64), .ro (.int .i64)] [.own (.sl 2 (.int .i64))]) = (entry k).fn a := by intro a; kernel_rfl
theorem run5 (k : Nat) (K : AExit → St → Option R) : ∀ n v, aloop (aexec (env k) (J k) (L k) ((findLoop 5 (codeOf Try.f58)).getD .skip)) (normSt [(0, .asis), (1, .asis), (2, .asis), (3, .asis), (9, .asis), (10, .asis), (11, .asis), (12, .asis)]) (normSt [(9, .asis)]) K n (sh5.enc (un5 v)) = l5 (R := R) k n v (fun y0 => K (.exit 0) (osh5kx0.enc (((), ()), (y0, ())))) := loop_eq (fun n v => aloop (aexec (env k) (J k) (L k) ((findLoop 5 (codeOf Try.f58)).getD .skip)) (normSt [(0, .asis), (1, .asis), (2, .asis), (3, .asis), (9, .asis), (10, .asis), (11, .asis), (12, .asis)]) (normSt [(9, .asis)]) K n (sh5.enc (un5 v))) (fun n v => l5 (R := R) k n v (fun y0 => K (.exit 0) (osh5kx0.enc (((), ()), (y0, ()))))) (fun X v => s5 (R := R) k X (fun y0 => K (.exit 0) (osh5kx0.enc (((), ()), (y0, ())))) v) (fun _ => rfl) (fun n v => step5 k n K v) (fun n v => rfl)
theorem loops (k : Nat) : LoopsOk (env k) (J k) (L k) (codeOf Try.f58) := by
  intro c an hc han s K r h
  unfold L at h
  by_cases q5 : firstRegion c = 5
  · have h1 := key_eq q5 h
    rw [q5] at hc han
    have e2 : an = ⟨[(0, .asis), (1, .asis), (2, .asis), (3, .asis), (9, .asis), (10, .asis), (11, .asis), (12, .asis)], [(9, .asis)]⟩ := (Option.some.inj (show some _ = some an from han)).symm
    have e1 : c = (findLoop 5 (codeOf Try.f58)).getD .skip := by rw [hc]; rfl
    cases hd : sh5.dec s with
    | none => rw [hd] at h1; cases h1
    | some v =>
      rw [hd] at h1
      refine ⟨k, ?_⟩
      rw [e1, e2, Shape.dec_enc _ _ _ hd]
      exact (run5 k K k (fl5 v)).trans h1
  have h := not_key q5 h
  cases h
theorem fit (k : Nat) : codeFit (env k) (codeOf Try.f58) = true := by kernel_rfl
theorem lps : (loopsIn (codeOf Try.f58)).map (fun d => findLoop (firstRegion d) (codeOf Try.f58)) = (loopsIn (codeOf Try.f58)).map some := by kernel_rfl
theorem hf : Try.prog.funcs[58]? = some Try.f58 := by kernel_rfl
theorem hb : Try.f58.body = some (codeOf Try.f58) := by kernel_rfl
theorem hn : (Try.f58.name == "runtime.NumGoroutine") = false := by kernel_rfl
theorem hJ (k : Nat) : ∀ C : Ctx, C.P = Try.prog → ∀ r, InlOk C (J k) r := fun C hC r => noInl_ok
theorem sound (k : Nat) : Sound Try.prog 58 (entry k) := func_sound (E := env k) (by kernel_rfl) (by kernel_rfl) (by kernel_rfl) (by kernel_rfl) (tbl_cons (spec_l01Has.sound k) tbl_nil) hf hb hn (fit k) (loops_all lps) (hJ k) (loops k) (eq k)
end spec_l13Split

namespace spec_l13Best
def entry (k : Nat) : Entry := ⟨[.ro (.sl 2 (.int .i64)), .ro (.sl 2 (.int .i64)), .ro .bool], [.own (.sl 2 (.int .i64))], fun (a0, (a1, (a2, _))) => f k a0 a1 a2⟩
def tbl (k : Nat) : List (Nat × Option Entry) := []
abbrev R := Res [.own (.sl 2 (.int .i64))] × Outs [.ro (.sl 2 (.int .i64)), .ro (.sl 2 (.int .i64)), .ro .bool]
def env (k : Nat) : Env := ⟨Try.prog, 66, AM.look none (tbl k), AM.look none [(4, some ⟨[(0, .asis), (1, .asis), (2, .asis), (7, .asis), (8, .asis), (9, .asis)], [(7, .asis)]⟩)]⟩
def sh4 : Shape := ⟨[(0, .val (.sl 2 (.int .i64))), (1, .val (.sl 2 (.int .i64))), (2, .val .bool), (7, .ref 0), (8, .val (.int .i64)), (9, .val (.int .i64))], [(0, .row 2 (.int .i64))], 1, []⟩
def osh4kx0 : Shape := ⟨[(7, .ref 0)], [(0, .row 2 (.int .i64))], 1, []⟩
def un4 : (List Int) × (List Int) × Bool × Int × Int × (List Int) → sh4.V := fun (x0, x1, x2, x8, x9, y0) => ((x0, (x1, (x2, ((), (x8, (x9, ())))))), (y0, ()))
def fl4 : sh4.V → (List Int) × (List Int) × Bool × Int × Int × (List Int) := fun ((x0, (x1, (x2, (_, (x8, (x9, _)))))), (y0, _)) => (x0, x1, x2, x8, x9, y0)
def L (k : Nat) (q : Nat) (s : St) (K : AExit → St → Option R) : Option R := bif Nat.beq q 4 then (match sh4.dec s with | some v => l4 (R := R) k k (fl4 v) (fun y0 => K (.exit 0) (osh4kx0.enc (((), ()), (y0, ())))) | none => none) else (none)
def J (k : Nat) : Inl R := noInl
theorem step4 (k n : Nat) (K : AExit → St → Option R) : ∀ v, aloop (aexec (env k) (J k) (L k) ((findLoop 4 (codeOf Try.f97)).getD .skip)) (normSt [(0, .asis), (1, .asis), (2, .asis), (7, .asis), (8, .asis), (9, .asis)]) (normSt [(7, .asis)]) K (n + 1) (sh4.enc (un4 v)) = s4 (R := R) k (fun w => aloop (aexec (env k) (J k) (L k) ((findLoop 4 (codeOf Try.f97)).getD .skip)) (normSt [(0, .asis), (1, .asis), (2, .asis), (7, .asis), (8, .asis), (9, .asis)]) (normSt [(7, .asis)]) K n (sh4.enc (un4 w))) (fun y0 => K (.exit 0) (osh4kx0.enc (((), ()), (y0, ())))) v := by intro v; kernel_rfl
theorem eq (k : Nat) : ∀ a, aexec (env k) (J k) (L k) (codeOf Try.f97) (begSt [.ro (.sl 2 (.int .i64)), .ro (.sl 2 (.int .i64)), .ro .bool] a) (finK (env k) Try.f97 [.ro (.sl 2 (.int .i64)), .ro (.sl 2 (.int .i64)), .ro .bool] [.own (.sl 2 (.int .i64))]) = (entry k).fn a := by intro a; kernel_rfl
theorem run4 (k : Nat) (K : AExit → St → Option R) : ∀ n v, aloop (aexec (env k) (J k) (L k) ((findLoop 4 (codeOf Try.f97)).getD .skip)) (normSt [(0, .asis), (1, .asis), (2, .asis), (7, .asis), (8, .asis), (9, .asis)]) (normSt [(7, .asis)]) K n (sh4.enc (un4 v)) = l4 (R := R) k n v (fun y0 => K (.exit 0) (osh4kx0.enc (((), ()), (y0, ())))) := loop_eq (fun n v => aloop (aexec (env k) (J k) (L k) ((findLoop 4 (codeOf Try.f97)).getD .skip)) (normSt [(0, .asis), (1, .asis), (2, .asis), (7, .asis), (8, .asis), (9, .asis)]) (normSt [(7, .asis)]) K n (sh4.enc (un4 v))) (fun n v => l4 (R := R) k n v (fun y0 => K (.exit 0) (osh4kx0.enc (((), ()), (y0, ()))))) (fun X v => s4 (R := R) k X (fun y0 => K (.exit 0) (osh4kx0.enc (((), ()), (y0, ())))) v) (fun _ => rfl) (fun n v => step4 k n K v) (fun n v => rfl)
theorem loops (k : Nat) : LoopsOk (env k) (J k) (L k) (codeOf Try.f97) := by
  intro c an hc han s K r h
  unfold L at h
  by_cases q4 : firstRegion c = 4
  · have h1 := key_eq q4 h
    rw [q4] at hc han
    have e2 : an = ⟨[(0, .asis), (1, .asis), (2, .asis), (7, .asis), (8, .asis), (9, .asis)], [(7, .asis)]⟩ := (Option.some.inj (show some _ = some an from han)).symm
    have e1 : c = (findLoop 4 (codeOf Try.f97)).getD .skip := by rw [hc]; rfl
    cases hd : sh4.dec s with
    | none => rw [hd] at h1; cases h1
    | some v =>
      rw [hd] at h1
      refine ⟨k, ?_⟩
      rw [e1, e2, Shape.dec_enc _ _ _ hd]
      exact (run4 k K k (fl4 v)).trans h1
  have h := not_key q4 h
  cases h
theorem fit (k : Nat) : codeFit (env k) (codeOf Try.f97) = true := by kernel_rfl
theorem lps : (loopsIn (codeOf Try.f97)).map (fun d => findLoop (firstRegion d) (codeOf Try.f97)) = (loopsIn (codeOf Try.f97)).map some := by kernel_rfl
theorem hf : Try.prog.funcs[97]? = some Try.f97 := by kernel_rfl
theorem hb : Try.f97.body = some (codeOf Try.f97) := by kernel_rfl
theorem hn : (Try.f97.name == "runtime.NumGoroutine") = false := by kernel_rfl
theorem hJ (k : Nat) : ∀ C : Ctx, C.P = Try.prog → ∀ r, InlOk C (J k) r := fun C hC r => noInl_ok
theorem sound (k : Nat) : Sound Try.prog 97 (entry k) := func_sound (E := env k) (by kernel_rfl) (by kernel_rfl) (by kernel_rfl) (by kernel_rfl) tbl_nil hf hb hn (fit k) (loops_all lps) (hJ k) (loops k) (eq k)
end spec_l13Best

namespace spec_l13Add
def entry (k : Nat) : Entry := ⟨[.ro (.sl 2 (.int .i64)), .ro (.sl 2 (.int .i64))], [.own (.sl 2 (.int .i64))], fun (a0, (a1, _)) => f k a0 a1⟩
def tbl (k : Nat) : List (Nat × Option Entry) := []
abbrev R := Res [.own (.sl 2 (.int .i64))] × Outs [.ro (.sl 2 (.int .i64)), .ro (.sl 2 (.int .i64))]
def env (k : Nat) : Env := ⟨Try.prog, 27, AM.look none (tbl k), AM.look none [(3, some ⟨[(0, .asis), (1, .asis), (5, .asis), (6, .asis)], [(5, .asis)]⟩)]⟩
def sh3 : Shape := ⟨[(0, .val (.sl 2 (.int .i64))), (1, .val (.sl 2 (.int .i64))), (5, .ref 0), (6, .val (.int .i64))], [(0, .row 2 (.int .i64))], 1, []⟩
def osh3kx0 : Shape := ⟨[(5, .ref 0)], [(0, .row 2 (.int .i64))], 1, []⟩
def un3 : (List Int) × (List Int) × Int × (List Int) → sh3.V := fun (x0, x1, x6, y0) => ((x0, (x1, ((), (x6, ())))), (y0, ()))
def fl3 : sh3.V → (List Int) × (List Int) × Int × (List Int) := fun ((x0, (x1, (_, (x6, _)))), (y0, _)) => (x0, x1, x6, y0)
def L (k : Nat) (q : Nat) (s : St) (K : AExit → St → Option R) : Option R := bif Nat.beq q 3 then (match sh3.dec s with | some v => l3 (R := R) k k (fl3 v) (fun y0 => K (.exit 0) (osh3kx0.enc (((), ()), (y0, ())))) | none => none) else (none)
def J (k : Nat) : Inl R := noInl
theorem step3 (k n : Nat) (K : AExit → St → Option R) : ∀ v, aloop (aexec (env k) (J k) (L k) ((findLoop 3 (codeOf Try.f98)).getD .skip)) (normSt [(0, .asis), (1, .asis), (5, .asis), (6, .asis)]) (normSt [(5, .asis)]) K (n + 1) (sh3.enc (un3 v)) = s3 (R := R) k (fun w => aloop (aexec (env k) (J k) (L k) ((findLoop 3 (codeOf Try.f98)).getD .skip)) (normSt [(0, .asis), (1, .asis), (5, .asis), (6, .asis)]) (normSt [(5, .asis)]) K n (sh3.enc (un3 w))) (fun y0 => K (.exit 0) (osh3kx0.enc (((), ()), (y0, ())))) v := by intro v; kernel_rfl
theorem eq (k : Nat) : ∀ a, aexec (env k) (J k) (L k) (codeOf Try.f98) (begSt [.ro (.sl 2 (.int .i64)), .ro (.sl 2 (.int .i64))] a) (finK (env k) Try.f98 [.ro (.sl 2 (.int .i64)), .ro (.sl 2 (.int .i64))] [.own (.sl 2 (.int .i64))]) = (entry k).fn a := by intro a; kernel_rfl
theorem run3 (k : Nat) (K : AExit → St → Option R) : ∀ n v, aloop (aexec (env k) (J k) (L k) ((findLoop 3 (codeOf Try.f98)).getD .skip)) (normSt [(0, .asis), (1, .asis), (5, .asis), (6, .asis)]) (normSt [(5, .asis)]) K n (sh3.enc (un3 v)) = l3 (R := R) k n v (fun y0 => K (.exit 0) (osh3kx0.enc (((), ()), (y0, ())))) := loop_eq (fun n v => aloop (aexec (env k) (J k) (L k) ((findLoop 3 (codeOf Try.f98)).getD .skip)) (normSt [(0, .asis), (1, .asis), (5, .asis), (6, .asis)]) (normSt [(5, .asis)]) K n (sh3.enc (un3 v))) (fun n v => l3 (R := R) k n v (fun y0 => K (.exit 0) (osh3kx0.enc (((), ()), (y0, ()))))) (fun X v => s3 (R := R) k X (fun y0 => K (.exit 0) (osh3kx0.enc (((), ()), (y0, ())))) v) (fun _ => rfl) (fun n v => step3 k n K v) (fun n v => rfl)
theorem loops (k : Nat) : LoopsOk (env k) (J k) (L k) (codeOf Try.f98) := by
  intro c an hc han s K r h
  unfold L at h
  by_cases q3 : firstRegion c = 3
  · have h1 := key_eq q3 h
    rw [q3] at hc han
    have e2 : an = ⟨[(0, .asis), (1, .asis), (5, .asis), (6, .asis)], [(5, .asis)]⟩ := (Option.some.inj (show some _ = some an from han)).symm
    have e1 : c = (findLoop 3 (codeOf Try.f98)).getD .skip := by rw [hc]; rfl
    cases hd : sh3.dec s with
    | none => rw [hd] at h1; cases h1
    | some v =>
      rw [hd] at h1
      refine ⟨k, ?_⟩
      rw [e1, e2, Shape.dec_enc _ _ _ hd]
      exact (run3 k K k (fl3 v)).trans h1
  have h := not_key q3 h
  cases h
theorem fit (k : Nat) : codeFit (env k) (codeOf Try.f98) = true := by kernel_rfl
theorem lps : (loopsIn (codeOf Try.f98)).map (fun d => findLoop (firstRegion d) (codeOf Try.f98)) = (loopsIn (codeOf Try.f98)).map some := by kernel_rfl
theorem hf : Try.prog.funcs[98]? = some Try.f98 := by kernel_rfl
theorem hb : Try.f98.body = some (codeOf Try.f98) := by kernel_rfl
theorem hn : (Try.f98.name == "runtime.NumGoroutine") = false := by kernel_rfl
theorem hJ (k : Nat) : ∀ C : Ctx, C.P = Try.prog → ∀ r, InlOk C (J k) r := fun C hC r => noInl_ok
theorem sound (k : Nat) : Sound Try.prog 98 (entry k) := func_sound (E := env k) (by kernel_rfl) (by kernel_rfl) (by kernel_rfl) (by kernel_rfl) tbl_nil hf hb hn (fit k) (loops_all lps) (hJ k) (loops k) (eq k)
end spec_l13Add

namespace spec_l13Award
def entry (k : Nat) : Entry := ⟨[.ro (.pair (.int .i64) (.pair (.sl 2 (.int .i64)) .unit)), .ro (.sl 2 (.int .i64)), .ro (.sl 2 (.int .i64)), .ro (.int .i64)], [.own (.sl 2 (.int .i64))], fun (a0, (a1, (a2, (a3, _)))) => f k a0 a1 a2 a3⟩
def tbl (k : Nat) : List (Nat × Option Entry) := [(58, some (spec_l13Split.entry k)), (97, some (spec_l13Best.entry k)), (98, some (spec_l13Add.entry k))]
abbrev R := Res [.own (.sl 2 (.int .i64))] × Outs [.ro (.pair (.int .i64) (.pair (.sl 2 (.int .i64)) .unit)), .ro (.sl 2 (.int .i64)), .ro (.sl 2 (.int .i64)), .ro (.int .i64)]
def env (k : Nat) : Env := ⟨Try.prog, 76, AM.look none (tbl k), AM.look none []⟩
def L (k : Nat) (q : Nat) (s : St) (K : AExit → St → Option R) : Option R := none
def J (k : Nat) : Inl R := noInl
theorem eq (k : Nat) : ∀ a, aexec (env k) (J k) (L k) (codeOf Try.f68) (begSt [.ro (.pair (.int .i64) (.pair (.sl 2 (.int .i64)) .unit)), .ro (.sl 2 (.int .i64)), .ro (.sl 2 (.int .i64)), .ro (.int .i64)] a) (finK (env k) Try.f68 [.ro (.pair (.int .i64) (.pair (.sl 2 (.int .i64)) .unit)), .ro (.sl 2 (.int .i64)), .ro (.sl 2 (.int .i64)), .ro (.int .i64)] [.own (.sl 2 (.int .i64))]) = (entry k).fn a := by intro a; kernel_rfl
theorem loops (k : Nat) : LoopsOk (env k) (J k) (L k) (codeOf Try.f68) := by
  intro c an hc han s K r h
  unfold L at h
  cases h
theorem fit (k : Nat) : codeFit (env k) (codeOf Try.f68) = true := by kernel_rfl
theorem lps : (loopsIn (codeOf Try.f68)).map (fun d => findLoop (firstRegion d) (codeOf Try.f68)) = (loopsIn (codeOf Try.f68)).map some := by kernel_rfl
theorem hf : Try.prog.funcs[68]? = some Try.f68 := by kernel_rfl
theorem hb : Try.f68.body = some (codeOf Try.f68) := by kernel_rfl
theorem hn : (Try.f68.name == "runtime.NumGoroutine") = false := by kernel_rfl
theorem hJ (k : Nat) : ∀ C : Ctx, C.P = Try.prog → ∀ r, InlOk C (J k) r := fun C hC r => noInl_ok
theorem sound (k : Nat) : Sound Try.prog 68 (entry k) := func_sound (E := env k) (by kernel_rfl) (by kernel_rfl) (by kernel_rfl) (by kernel_rfl) (tbl_cons (spec_l13Split.sound k) (tbl_cons (spec_l13Best.sound k) (tbl_cons (spec_l13Add.sound k) tbl_nil))) hf hb hn (fit k) (loops_all lps) (hJ k) (loops k) (eq k)
end spec_l13Award

namespace spec_AwardPot
def entry (k : Nat) : Entry := ⟨[.ro (.pair (.int .i64) (.pair (.sl 2 (.int .i64)) .unit)), .ro (.sl 2 (.int .i64)), .ro (.sl 2 (.int .i64)), .ro (.int .i64)], [.own (.sl 2 (.int .i64)), .own (.int .i64)], fun (a0, (a1, (a2, (a3, _)))) => f k a0 a1 a2 a3⟩
def tbl (k : Nat) : List (Nat × Option Entry) := [(67, some (spec_l13Pots.entry k)), (68, some (spec_l13Award.entry k))]
abbrev R := Res [.own (.sl 2 (.int .i64)), .own (.int .i64)] × Outs [.ro (.pair (.int .i64) (.pair (.sl 2 (.int .i64)) .unit)), .ro (.sl 2 (.int .i64)), .ro (.sl 2 (.int .i64)), .ro (.int .i64)]
def env (k : Nat) : Env := ⟨Try.prog, 25, AM.look none (tbl k), AM.look none []⟩
def L (k : Nat) (q : Nat) (s : St) (K : AExit → St → Option R) : Option R := none
def J (k : Nat) : Inl R := noInl
theorem eq (k : Nat) : ∀ a, aexec (env k) (J k) (L k) (codeOf Try.f23) (begSt [.ro (.pair (.int .i64) (.pair (.sl 2 (.int .i64)) .unit)), .ro (.sl 2 (.int .i64)), .ro (.sl 2 (.int .i64)), .ro (.int .i64)] a) (finK (env k) Try.f23 [.ro (.pair (.int .i64) (.pair (.sl 2 (.int .i64)) .unit)), .ro (.sl 2 (.int .i64)), .ro (.sl 2 (.int .i64)), .ro (.int .i64)] [.own (.sl 2 (.int .i64)), .own (.int .i64)]) = (entry k).fn a := by intro a; kernel_rfl
theorem loops (k : Nat) : LoopsOk (env k) (J k) (L k) (codeOf Try.f23) := by
  intro c an hc han s K r h
  unfold L at h
  cases h
theorem fit (k : Nat) : codeFit (env k) (codeOf Try.f23) = true := by kernel_rfl
theorem lps : (loopsIn (codeOf Try.f23)).map (fun d => findLoop (firstRegion d) (codeOf Try.f23)) = (loopsIn (codeOf Try.f23)).map some := by kernel_rfl
theorem hf : Try.prog.funcs[23]? = some Try.f23 := by kernel_rfl
theorem hb : Try.f23.body = some (codeOf Try.f23) := by kernel_rfl
theorem hn : (Try.f23.name == "runtime.NumGoroutine") = false := by kernel_rfl
theorem hJ (k : Nat) : ∀ C : Ctx, C.P = Try.prog → ∀ r, InlOk C (J k) r := fun C hC r => noInl_ok
theorem sound (k : Nat) : Sound Try.prog 23 (entry k) := func_sound (E := env k) (by kernel_rfl) (by kernel_rfl) (by kernel_rfl) (by kernel_rfl) (tbl_cons (spec_l13Pots.sound k) (tbl_cons (spec_l13Award.sound k) tbl_nil)) hf hb hn (fit k) (loops_all lps) (hJ k) (loops k) (eq k)
end spec_AwardPot

namespace slices_Index_int64_int64
def entry (k : Nat) : Entry := ⟨[.ro (.sl 2 (.int .i64)), .ro (.int .i64)], [.own (.int .i64)], fun (a0, (a1, _)) => f k a0 a1⟩
def tbl (k : Nat) : List (Nat × Option Entry) := []
abbrev R := Res [.own (.int .i64)] × Outs [.ro (.sl 2 (.int .i64)), .ro (.int .i64)]
def env (k : Nat) : Env := ⟨Try.prog, 19, AM.look none (tbl k), AM.look none [(2, some ⟨[(0, .asis), (1, .asis), (7, .asis), (8, .asis)], [(4, .asis)]⟩)]⟩
def sh2 : Shape := ⟨[(0, .val (.sl 2 (.int .i64))), (1, .val (.int .i64)), (7, .val (.int .i64)), (8, .val (.int .i64))], [], 0, []⟩
def osh2kx0 : Shape := ⟨[(4, .undef)], [], 0, []⟩
def osh2kr : Shape := ⟨[(4, .val (.int .i64))], [], 0, []⟩
def un2 : (List Int) × Int × Int × Int → sh2.V := fun (x0, x1, x7, x8) => ((x0, (x1, (x7, (x8, ())))), ())
def fl2 : sh2.V → (List Int) × Int × Int × Int := fun ((x0, (x1, (x7, (x8, _)))), _) => (x0, x1, x7, x8)
def L (k : Nat) (q : Nat) (s : St) (K : AExit → St → Option R) : Option R := bif Nat.beq q 2 then (match sh2.dec s with | some v => l2 (R := R) k k (fl2 v) (fun (_ : Unit) => K (.exit 0) (osh2kx0.enc (((), ()), ()))) (fun x4 => K .ret (osh2kr.enc ((x4, ()), ()))) | none => none) else (none)
def J (k : Nat) : Inl R := noInl
theorem step2 (k n : Nat) (K : AExit → St → Option R) : ∀ v, aloop (aexec (env k) (J k) (L k) ((findLoop 2 (codeOf Try.f110)).getD .skip)) (normSt [(0, .asis), (1, .asis), (7, .asis), (8, .asis)]) (normSt [(4, .asis)]) K (n + 1) (sh2.enc (un2 v)) = s2 (R := R) k (fun w => aloop (aexec (env k) (J k) (L k) ((findLoop 2 (codeOf Try.f110)).getD .skip)) (normSt [(0, .asis), (1, .asis), (7, .asis), (8, .asis)]) (normSt [(4, .asis)]) K n (sh2.enc (un2 w))) (fun (_ : Unit) => K (.exit 0) (osh2kx0.enc (((), ()), ()))) (fun x4 => K .ret (osh2kr.enc ((x4, ()), ()))) v := by intro v; kernel_rfl
theorem eq (k : Nat) : ∀ a, aexec (env k) (J k) (L k) (codeOf Try.f110) (begSt [.ro (.sl 2 (.int .i64)), .ro (.int .i64)] a) (finK (env k) Try.f110 [.ro (.sl 2 (.int .i64)), .ro (.int .i64)] [.own (.int .i64)]) = (entry k).fn a := by intro a; kernel_rfl
theorem run2 (k : Nat) (K : AExit → St → Option R) : ∀ n v, aloop (aexec (env k) (J k) (L k) ((findLoop 2 (codeOf Try.f110)).getD .skip)) (normSt [(0, .asis), (1, .asis), (7, .asis), (8, .asis)]) (normSt [(4, .asis)]) K n (sh2.enc (un2 v)) = l2 (R := R) k n v (fun (_ : Unit) => K (.exit 0) (osh2kx0.enc (((), ()), ()))) (fun x4 => K .ret (osh2kr.enc ((x4, ()), ()))) := loop_eq (fun n v => aloop (aexec (env k) (J k) (L k) ((findLoop 2 (codeOf Try.f110)).getD .skip)) (normSt [(0, .asis), (1, .asis), (7, .asis), (8, .asis)]) (normSt [(4, .asis)]) K n (sh2.enc (un2 v))) (fun n v => l2 (R := R) k n v (fun (_ : Unit) => K (.exit 0) (osh2kx0.enc (((), ()), ()))) (fun x4 => K .ret (osh2kr.enc ((x4, ()), ())))) (fun X v => s2 (R := R) k X (fun (_ : Unit) => K (.exit 0) (osh2kx0.enc (((), ()), ()))) (fun x4 => K .ret (osh2kr.enc ((x4, ()), ()))) v) (fun _ => rfl) (fun n v => step2 k n K v) (fun n v => rfl)
theorem loops (k : Nat) : LoopsOk (env k) (J k) (L k) (codeOf Try.f110) := by
  intro c an hc han s K r h
  unfold L at h
  by_cases q2 : firstRegion c = 2
  · have h1 := key_eq q2 h
    rw [q2] at hc han
    have e2 : an = ⟨[(0, .asis), (1, .asis), (7, .asis), (8, .asis)], [(4, .asis)]⟩ := (Option.some.inj (show some _ = some an from han)).symm
    have e1 : c = (findLoop 2 (codeOf Try.f110)).getD .skip := by rw [hc]; rfl
    cases hd : sh2.dec s with
    | none => rw [hd] at h1; cases h1
    | some v =>
      rw [hd] at h1
      refine ⟨k, ?_⟩
      rw [e1, e2, Shape.dec_enc _ _ _ hd]
      exact (run2 k K k (fl2 v)).trans h1
  have h := not_key q2 h
  cases h
theorem fit (k : Nat) : codeFit (env k) (codeOf Try.f110) = true := by kernel_rfl
theorem lps : (loopsIn (codeOf Try.f110)).map (fun d => findLoop (firstRegion d) (codeOf Try.f110)) = (loopsIn (codeOf Try.f110)).map some := by kernel_rfl
theorem hf : Try.prog.funcs[110]? = some Try.f110 := by kernel_rfl
theorem hb : Try.f110.body = some (codeOf Try.f110) := by kernel_rfl
theorem hn : (Try.f110.name == "runtime.NumGoroutine") = false := by kernel_rfl
theorem hJ (k : Nat) : ∀ C : Ctx, C.P = Try.prog → ∀ r, InlOk C (J k) r := fun C hC r => noInl_ok
theorem sound (k : Nat) : Sound Try.prog 110 (entry k) := func_sound (E := env k) (by kernel_rfl) (by kernel_rfl) (by kernel_rfl) (by kernel_rfl) tbl_nil hf hb hn (fit k) (loops_all lps) (hJ k) (loops k) (eq k)
end slices_Index_int64_int64

namespace slices_Contains_int64_int64
def entry (k : Nat) : Entry := ⟨[.ro (.sl 2 (.int .i64)), .ro (.int .i64)], [.own .bool], fun (a0, (a1, _)) => f k a0 a1⟩
def tbl (k : Nat) : List (Nat × Option Entry) := [(110, some (slices_Index_int64_int64.entry k))]
abbrev R := Res [.own .bool] × Outs [.ro (.sl 2 (.int .i64)), .ro (.int .i64)]
def env (k : Nat) : Env := ⟨Try.prog, 9, AM.look none (tbl k), AM.look none []⟩
def L (k : Nat) (q : Nat) (s : St) (K : AExit → St → Option R) : Option R := none
def J (k : Nat) : Inl R := noInl
theorem eq (k : Nat) : ∀ a, aexec (env k) (J k) (L k) (codeOf Try.f92) (begSt [.ro (.sl 2 (.int .i64)), .ro (.int .i64)] a) (finK (env k) Try.f92 [.ro (.sl 2 (.int .i64)), .ro (.int .i64)] [.own .bool]) = (entry k).fn a := by intro a; kernel_rfl
theorem loops (k : Nat) : LoopsOk (env k) (J k) (L k) (codeOf Try.f92) := by
  intro c an hc han s K r h
  unfold L at h
  cases h
theorem fit (k : Nat) : codeFit (env k) (codeOf Try.f92) = true := by kernel_rfl
theorem lps : (loopsIn (codeOf Try.f92)).map (fun d => findLoop (firstRegion d) (codeOf Try.f92)) = (loopsIn (codeOf Try.f92)).map some := by kernel_rfl
theorem hf : Try.prog.funcs[92]? = some Try.f92 := by kernel_rfl
theorem hb : Try.f92.body = some (codeOf Try.f92) := by kernel_rfl
theorem hn : (Try.f92.name == "runtime.NumGoroutine") = false := by kernel_rfl
theorem hJ (k : Nat) : ∀ C : Ctx, C.P = Try.prog → ∀ r, InlOk C (J k) r := fun C hC r => noInl_ok
theorem sound (k : Nat) : Sound Try.prog 92 (entry k) := func_sound (E := env k) (by kernel_rfl) (by kernel_rfl) (by kernel_rfl) (by kernel_rfl) (tbl_cons (slices_Index_int64_int64.sound k) tbl_nil) hf hb hn (fit k) (loops_all lps) (hJ k) (loops k) (eq k)
end slices_Contains_int64_int64

namespace impl_splitChips
def entry (k : Nat) : Entry := ⟨[.ro (.int .i64), .ro (.sl 2 (.int .i64)), .ro (.int .i64), .ro (.int .i64)], [.own (.sl 2 (.int .i64))], fun (a0, (a1, (a2, (a3, _)))) => f k a0 a1 a2 a3⟩
def tbl (k : Nat) : List (Nat × Option Entry) := [(92, some (slices_Contains_int64_int64.entry k))]
abbrev R := Res [.own (.sl 2 (.int .i64))] × Outs [.ro (.int .i64), .ro (.sl 2 (.int .i64)), .ro (.int .i64), .ro (.int .i64)]
def env (k : Nat) : Env := ⟨Try.prog, 52, AM.look none (tbl k), AM.look none [(5, some ⟨[(0, .asis), (1, .asis), (2, .asis), (3, .asis), (9, .asis), (10, .asis), (11, .asis), (21, .asis), (22, .asis)], [(9, .asis)]⟩)]⟩
def sh5 : Shape := ⟨[(0, .val (.int .i64)), (1, .val (.sl 2 (.int .i64))), (2, .val (.int .i64)), (3, .val (.int .i64)), (9, .ref 0), (10, .val (.int .i64)), (11, .val (.int .i64)), (21, .val (.int .i64)), (22, .val (.int .i64))], [(0, .row 2 (.int .i64))], 1, []⟩
def osh5kx0 : Shape := ⟨[(9, .ref 0)], [(0, .row 2 (.int .i64))], 1, []⟩
def un5 : Int × (List Int) × Int × Int × Int × Int × Int × Int × (List Int) → sh5.V := fun (x0, x1, x2, x3, x10, x11, x21, x22, y0) => ((x0, (x1, (x2, (x3, ((), (x10, (x11, (x21, (x22, ()))))))))), (y0, ()))
def fl5 : sh5.V → Int × (List Int) × Int × Int × Int × Int × Int × Int × (List Int) := fun ((x0, (x1, (x2, (x3, (_, (x10, (x11, (x21, (x22, _))))))))), (y0, _)) => (x0, x1, x2, x3, x10, x11, x21, x22, y0)
def L (k : Nat) (q : Nat) (s : St) (K : AExit → St → Option R) : Option R := bif Nat.beq q 5 then (match sh5.dec s with | some v => l5 (R := R) k k (fl5 v) (fun y0 => K (.exit 0) (osh5kx0.enc (((), ()), (y0, ())))) | none => none) else (none)
def J (k : Nat) : Inl R := noInl
theorem step5 (k n : Nat) (K : AExit → St → Option R) : ∀ v, aloop (aexec (env k) (J k) (L k) ((findLoop 5 (codeOf Try.f61)).getD .skip)) (normSt [(0, .asis), (1, .asis), (2, .asis), (3, .asis), (9, .asis), (10, .asis), (11, .asis), (21, .asis), (22, .asis)]) (normSt [(9, .asis)]) K (n + 1) (sh5.enc (un5 v)) = s5 (R := R) k (fun w => aloop (aexec (env k) (J k) (L k) ((findLoop 5 (codeOf Try.f61)).getD .skip)) (normSt [(0, .asis), (1, .asis), (2, .asis), (3, .asis), (9, .asis), (10, .asis), (11, .asis), (21, .asis), (22, .asis)]) (normSt [(9, .asis)]) K n (sh5.enc (un5 w))) (fun y0 => K (.exit 0) (osh5kx0.enc (((), ()), (y0, ())))) v := by intro v; kernel_rfl
theorem eq (k : Nat) : ∀ a, aexec (env k) (J k) (L k) (codeOf Try.f61) (begSt [.ro (.int .i64), .ro (.sl 2 (.int .i64)), .ro (.int .i64), .ro (.int .i64)] a) (finK (env k) Try.f61 [.ro (.int .i64), .ro (.sl 2 (.int .i64)), .ro (.int .i64), .ro (.int .i64)] [.own (.sl 2 (.int .i64))]) = (entry k).fn a := by intro a; kernel_rfl
theorem run5 (k : Nat) (K : AExit → St → Option R) : ∀ n v, aloop (aexec (env k) (J k) (L k) ((findLoop 5 (codeOf Try.f61)).getD .skip)) (normSt [(0, .asis), (1, .asis), (2, .asis), (3, .asis), (9, .asis), (10, .asis), (11, .asis), (21, .asis), (22, .asis)]) (normSt [(9, .asis)]) K n (sh5.enc (un5 v)) = l5 (R := R) k n v (fun y0 => K (.exit 0) (osh5kx0.enc (((), ()), (y0, ())))) := loop_eq (fun n v => aloop (aexec (env k) (J k) (L k) ((findLoop 5 (codeOf Try.f61)).getD .skip)) (normSt [(0, .asis), (1, .asis), (2, .asis), (3, .asis), (9, .asis), (10, .asis), (11, .asis), (21, .asis), (22, .asis)]) (normSt [(9, .asis)]) K n (sh5.enc (un5 v))) (fun n v => l5 (R := R) k n v (fun y0 => K (.exit 0) (osh5kx0.enc (((), ()), (y0, ()))))) (fun X v => s5 (R := R) k X (fun y0 => K (.exit 0) (osh5kx0.enc (((), ()), (y0, ())))) v) (fun _ => rfl) (fun n v => step5 k n K v) (fun n v => rfl)
theorem loops (k : Nat) : LoopsOk (env k) (J k) (L k) (codeOf Try.f61) := by
  intro c an hc han s K r h
  unfold L at h
  by_cases q5 : firstRegion c = 5
  · have h1 := key_eq q5 h
    rw [q5] at hc han
    have e2 : an = ⟨[(0, .asis), (1, .asis), (2, .asis), (3, .asis), (9, .asis), (10, .asis), (11, .asis), (21, .asis), (22, .asis)], [(9, .asis)]⟩ := (Option.some.inj (show some _ = some an from han)).symm
    have e1 : c = (findLoop 5 (codeOf Try.f61)).getD .skip := by rw [hc]; rfl
    cases hd : sh5.dec s with
    | none => rw [hd] at h1; cases h1
    | some v =>
      rw [hd] at h1
      refine ⟨k, ?_⟩
      rw [e1, e2, Shape.dec_enc _ _ _ hd]
      exact (run5 k K k (fl5 v)).trans h1
  have h := not_key q5 h
  cases h
theorem fit (k : Nat) : codeFit (env k) (codeOf Try.f61) = true := by kernel_rfl
theorem lps : (loopsIn (codeOf Try.f61)).map (fun d => findLoop (firstRegion d) (codeOf Try.f61)) = (loopsIn (codeOf Try.f61)).map some := by kernel_rfl
theorem hf : Try.prog.funcs[61]? = some Try.f61 := by kernel_rfl
theorem hb : Try.f61.body = some (codeOf Try.f61) := by kernel_rfl
theorem hn : (Try.f61.name == "runtime.NumGoroutine") = false := by kernel_rfl
theorem hJ (k : Nat) : ∀ C : Ctx, C.P = Try.prog → ∀ r, InlOk C (J k) r := fun C hC r => noInl_ok
theorem sound (k : Nat) : Sound Try.prog 61 (entry k) := func_sound (E := env k) (by kernel_rfl) (by kernel_rfl) (by kernel_rfl) (by kernel_rfl) (tbl_cons (slices_Contains_int64_int64.sound k) tbl_nil) hf hb hn (fit k) (loops_all lps) (hJ k) (loops k) (eq k)
end impl_splitChips

namespace impl_awarded
def entry (k : Nat) : Entry := ⟨[.ro (.sl 34 (.pair (.int .i64) (.pair (.sl 2 (.int .i64)) .unit))), .ro (.sl 2 (.int .i64)), .ro (.sl 2 (.int .i64)), .ro (.int .i64)], [.own (.sl 2 (.int .i64))], fun (a0, (a1, (a2, (a3, _)))) => f k a0 a1 a2 a3⟩
def tbl (k : Nat) : List (Nat × Option Entry) := [(61, some (impl_splitChips.entry k)), (64, some (impl_highWinners.entry k)), (65, some (impl_lowWinners.entry k))]
abbrev R := Res [.own (.sl 2 (.int .i64))] × Outs [.ro (.sl 34 (.pair (.int .i64) (.pair (.sl 2 (.int .i64)) .unit))), .ro (.sl 2 (.int .i64)), .ro (.sl 2 (.int .i64)), .ro (.int .i64)]
def env (k : Nat) : Env := ⟨Try.prog, 85, AM.look none (tbl k), AM.look none [(5, some ⟨[(1, .asis), (2, .asis), (10, .asis), (11, .asis), (21, .asis), (22, .asis), (23, .asis)], [(10, .asis)]⟩)]⟩
def sh5 : Shape := ⟨[(1, .val (.sl 2 (.int .i64))), (2, .val (.sl 2 (.int .i64))), (10, .pc 1 0), (11, .fn 101 [.pc 2 0, .pc 3 0, .pc 1 0]), (21, .val (.sl 34 (.pair (.int .i64) (.pair (.sl 2 (.int .i64)) .unit)))), (22, .val (.int .i64)), (23, .val (.int .i64))], [(0, .row 2 (.int .i64)), (1, .cell [.ref 0]), (2, .cell [.val (.int .i64)]), (3, .cell [.val (.int .i64)])], 4, []⟩
def osh5kx0 : Shape := ⟨[(10, .pc 1 0)], [(0, .row 2 (.int .i64)), (1, .cell [.ref 0])], 2, []⟩
def un5 : (List Int) × (List Int) × (List (Int × ((List Int) × Unit))) × Int × Int × (List Int) × Int × Int → sh5.V := fun (x1, x2, x21, x22, x23, y0, z2_0, z3_0) => ((x1, (x2, ((), ((), (x21, (x22, (x23, ()))))))), (y0, (((), ()), ((z2_0, ()), ((z3_0, ()), ())))))
def fl5 : sh5.V → (List Int) × (List Int) × (List (Int × ((List Int) × Unit))) × Int × Int × (List Int) × Int × Int := fun ((x1, (x2, (_, (_, (x21, (x22, (x23, _))))))), (y0, ((_, _), ((z2_0, _), ((z3_0, _), _))))) => (x1, x2, x21, x22, x23, y0, z2_0, z3_0)
def L (k : Nat) (q : Nat) (s : St) (K : AExit → St → Option R) : Option R := bif Nat.beq q 5 then (match sh5.dec s with | some v => l5 (R := R) k k (fl5 v) (fun y0 => K (.exit 0) (osh5kx0.enc (((), ()), (y0, (((), ()), ()))))) | none => none) else (none)
def i10005_env (k : Nat) : Env := ⟨Try.prog, 28, AM.look none (tbl k), AM.look none [(1, some ⟨[(4, .asis), (13, .asis), (14, .asis), (15, .asis), (4096, .asis), (4097, .asis), (4098, .asis), (4099, .asis), (4100, .asis), (4101, .asis), (4102, .asis), (4103, .asis), (4104, .asis)], [(4096, .asis), (4097, .asis), (4098, .asis), (4099, .asis), (4100, .asis), (4101, .asis), (4102, .asis), (4103, .asis), (4104, .asis)]⟩)]⟩
def shi10005_1 : Shape := ⟨[(4, .pc 1 0), (13, .ref 2), (14, .val (.int .i64)), (15, .val (.int .i64)), (4096, .val (.sl 2 (.int .i64))), (4097, .val (.sl 2 (.int .i64))), (4098, .pc 1 0), (4099, .fn 101 [.pc 3 0, .pc 4 0, .pc 1 0]), (4100, .pc 5 0), (4101, .ref 6), (4102, .val (.sl 34 (.pair (.int .i64) (.pair (.sl 2 (.int .i64)) .unit)))), (4103, .val (.int .i64)), (4104, .val (.int .i64))], [(0, .row 2 (.int .i64)), (1, .cell [.ref 0]), (2, .row 2 (.int .i64)), (3, .cell [.val (.int .i64)]), (4, .cell [.val (.int .i64)]), (5, .cell [.val (.int .i64), .val (.sl 2 (.int .i64))]), (6, .row 2 (.int .i64))], 7, []⟩
def oshi10005_1kx0 : Shape := ⟨[(4096, .val (.sl 2 (.int .i64))), (4097, .val (.sl 2 (.int .i64))), (4098, .pc 1 0), (4099, .fn 101 [.pc 2 0, .pc 3 0, .pc 1 0]), (4100, .pc 4 0), (4101, .ref 5), (4102, .val (.sl 34 (.pair (.int .i64) (.pair (.sl 2 (.int .i64)) .unit)))), (4103, .val (.int .i64)), (4104, .val (.int .i64))], [(0, .row 2 (.int .i64)), (1, .cell [.ref 0]), (2, .cell [.val (.int .i64)]), (3, .cell [.val (.int .i64)]), (4, .cell [.val (.int .i64), .val (.sl 2 (.int .i64))]), (5, .row 2 (.int .i64))], 6, []⟩
def uni10005_1 : Int × Int × (List Int) × (List Int) × (List (Int × ((List Int) × Unit))) × Int × Int × (List Int) × (List Int) × Int × Int × Int × (List Int) × (List Int) → shi10005_1.V := fun (x14, x15, x4096, x4097, x4102, x4103, x4104, y0, y2, z3_0, z4_0, z5_0, z5_1, y6) => (((), ((), (x14, (x15, (x4096, (x4097, ((), ((), ((), ((), (x4102, (x4103, (x4104, ()))))))))))))), (y0, (((), ()), (y2, ((z3_0, ()), ((z4_0, ()), ((z5_0, (z5_1, ())), (y6, ()))))))))
def fli10005_1 : shi10005_1.V → Int × Int × (List Int) × (List Int) × (List (Int × ((List Int) × Unit))) × Int × Int × (List Int) × (List Int) × Int × Int × Int × (List Int) × (List Int) := fun ((_, (_, (x14, (x15, (x4096, (x4097, (_, (_, (_, (_, (x4102, (x4103, (x4104, _))))))))))))), (y0, ((_, _), (y2, ((z3_0, _), ((z4_0, _), ((z5_0, (z5_1, _)), (y6, _)))))))) => (x14, x15, x4096, x4097, x4102, x4103, x4104, y0, y2, z3_0, z4_0, z5_0, z5_1, y6)
def i10005_L (k : Nat) (q : Nat) (s : St) (K : AExit → St → Option R) : Option R := bif Nat.beq q 1 then (match shi10005_1.dec s with | some v => i10005_l1 (R := R) k k (fli10005_1 v) (fun (x4096, x4097, x4102, x4103, x4104, y0, z2_0, z3_0, z4_0, z4_1, y5) => K (.exit 0) (oshi10005_1kx0.enc ((x4096, (x4097, ((), ((), ((), ((), (x4102, (x4103, (x4104, ()))))))))), (y0, (((), ()), ((z2_0, ()), ((z3_0, ()), ((z4_0, (z4_1, ())), (y5, ()))))))))) | none => none) else (none)
def i11008_env (k : Nat) : Env := ⟨Try.prog, 28, AM.look none (tbl k), AM.look none [(1, some ⟨[(4, .asis), (13, .asis), (14, .asis), (15, .asis), (4096, .asis), (4097, .asis), (4098, .asis), (4099, .asis), (4100, .asis), (4101, .asis), (4102, .asis)], [(4096, .asis), (4097, .asis), (4098, .asis), (4099, .asis), (4100, .asis), (4101, .asis), (4102, .asis)]⟩)]⟩
def shi11008_1 : Shape := ⟨[(4, .pc 1 0), (13, .ref 2), (14, .val (.int .i64)), (15, .val (.int .i64)), (4096, .val (.sl 2 (.int .i64))), (4097, .val (.sl 2 (.int .i64))), (4098, .pc 1 0), (4099, .fn 101 [.pc 3 0, .pc 4 0, .pc 1 0]), (4100, .val (.sl 34 (.pair (.int .i64) (.pair (.sl 2 (.int .i64)) .unit)))), (4101, .val (.int .i64)), (4102, .val (.int .i64))], [(0, .row 2 (.int .i64)), (1, .cell [.ref 0]), (2, .row 2 (.int .i64)), (3, .cell [.val (.int .i64)]), (4, .cell [.val (.int .i64)])], 5, []⟩
def oshi11008_1kx0 : Shape := ⟨[(4096, .val (.sl 2 (.int .i64))), (4097, .val (.sl 2 (.int .i64))), (4098, .pc 1 0), (4099, .fn 101 [.pc 2 0, .pc 3 0, .pc 1 0]), (4100, .val (.sl 34 (.pair (.int .i64) (.pair (.sl 2 (.int .i64)) .unit)))), (4101, .val (.int .i64)), (4102, .val (.int .i64))], [(0, .row 2 (.int .i64)), (1, .cell [.ref 0]), (2, .cell [.val (.int .i64)]), (3, .cell [.val (.int .i64)])], 4, []⟩
def uni11008_1 : Int × Int × (List Int) × (List Int) × (List (Int × ((List Int) × Unit))) × Int × Int × (List Int) × (List Int) × Int × Int → shi11008_1.V := fun (x14, x15, x4096, x4097, x4100, x4101, x4102, y0, y2, z3_0, z4_0) => (((), ((), (x14, (x15, (x4096, (x4097, ((), ((), (x4100, (x4101, (x4102, ()))))))))))), (y0, (((), ()), (y2, ((z3_0, ()), ((z4_0, ()), ()))))))
def fli11008_1 : shi11008_1.V → Int × Int × (List Int) × (List Int) × (List (Int × ((List Int) × Unit))) × Int × Int × (List Int) × (List Int) × Int × Int := fun ((_, (_, (x14, (x15, (x4096, (x4097, (_, (_, (x4100, (x4101, (x4102, _))))))))))), (y0, ((_, _), (y2, ((z3_0, _), ((z4_0, _), _)))))) => (x14, x15, x4096, x4097, x4100, x4101, x4102, y0, y2, z3_0, z4_0)
def i11008_L (k : Nat) (q : Nat) (s : St) (K : AExit → St → Option R) : Option R := bif Nat.beq q 1 then (match shi11008_1.dec s with | some v => i11008_l1 (R := R) k k (fli11008_1 v) (fun (x4096, x4097, x4100, x4101, x4102, y0, z2_0, z3_0) => K (.exit 0) (oshi11008_1kx0.enc ((x4096, (x4097, ((), ((), (x4100, (x4101, (x4102, ()))))))), (y0, (((), ()), ((z2_0, ()), ((z3_0, ()), ()))))))) | none => none) else (none)
def i13004_env (k : Nat) : Env := ⟨Try.prog, 28, AM.look none (tbl k), AM.look none [(1, some ⟨[(4, .asis), (13, .asis), (14, .asis), (15, .asis), (4096, .asis), (4097, .asis), (4098, .asis), (4099, .asis), (4100, .asis), (4101, .asis), (4102, .asis)], [(4096, .asis), (4097, .asis), (4098, .asis), (4099, .asis), (4100, .asis), (4101, .asis), (4102, .asis)]⟩)]⟩
def shi13004_1 : Shape := ⟨[(4, .pc 1 0), (13, .ref 2), (14, .val (.int .i64)), (15, .val (.int .i64)), (4096, .val (.sl 2 (.int .i64))), (4097, .val (.sl 2 (.int .i64))), (4098, .pc 1 0), (4099, .fn 101 [.pc 3 0, .pc 4 0, .pc 1 0]), (4100, .val (.sl 34 (.pair (.int .i64) (.pair (.sl 2 (.int .i64)) .unit)))), (4101, .val (.int .i64)), (4102, .val (.int .i64))], [(0, .row 2 (.int .i64)), (1, .cell [.ref 0]), (2, .row 2 (.int .i64)), (3, .cell [.val (.int .i64)]), (4, .cell [.val (.int .i64)])], 5, []⟩
def oshi13004_1kx0 : Shape := ⟨[(4096, .val (.sl 2 (.int .i64))), (4097, .val (.sl 2 (.int .i64))), (4098, .pc 1 0), (4099, .fn 101 [.pc 2 0, .pc 3 0, .pc 1 0]), (4100, .val (.sl 34 (.pair (.int .i64) (.pair (.sl 2 (.int .i64)) .unit)))), (4101, .val (.int .i64)), (4102, .val (.int .i64))], [(0, .row 2 (.int .i64)), (1, .cell [.ref 0]), (2, .cell [.val (.int .i64)]), (3, .cell [.val (.int .i64)])], 4, []⟩
def uni13004_1 : Int × Int × (List Int) × (List Int) × (List (Int × ((List Int) × Unit))) × Int × Int × (List Int) × (List Int) × Int × Int → shi13004_1.V := fun (x14, x15, x4096, x4097, x4100, x4101, x4102, y0, y2, z3_0, z4_0) => (((), ((), (x14, (x15, (x4096, (x4097, ((), ((), (x4100, (x4101, (x4102, ()))))))))))), (y0, (((), ()), (y2, ((z3_0, ()), ((z4_0, ()), ()))))))
def fli13004_1 : shi13004_1.V → Int × Int × (List Int) × (List Int) × (List (Int × ((List Int) × Unit))) × Int × Int × (List Int) × (List Int) × Int × Int := fun ((_, (_, (x14, (x15, (x4096, (x4097, (_, (_, (x4100, (x4101, (x4102, _))))))))))), (y0, ((_, _), (y2, ((z3_0, _), ((z4_0, _), _)))))) => (x14, x15, x4096, x4097, x4100, x4101, x4102, y0, y2, z3_0, z4_0)
def i13004_L (k : Nat) (q : Nat) (s : St) (K : AExit → St → Option R) : Option R := bif Nat.beq q 1 then (match shi13004_1.dec s with | some v => i13004_l1 (R := R) k k (fli13004_1 v) (fun (x4096, x4097, x4100, x4101, x4102, y0, z2_0, z3_0) => K (.exit 0) (oshi13004_1kx0.enc ((x4096, (x4097, ((), ((), (x4100, (x4101, (x4102, ()))))))), (y0, (((), ()), ((z2_0, ()), ((z3_0, ()), ()))))))) | none => none) else (none)
def i15004_env (k : Nat) : Env := ⟨Try.prog, 28, AM.look none (tbl k), AM.look none [(1, some ⟨[(4, .asis), (13, .asis), (14, .asis), (15, .asis), (4096, .asis), (4097, .asis), (4098, .asis), (4099, .asis), (4100, .asis), (4101, .asis), (4102, .asis)], [(4096, .asis), (4097, .asis), (4098, .asis), (4099, .asis), (4100, .asis), (4101, .asis), (4102, .asis)]⟩)]⟩
def shi15004_1 : Shape := ⟨[(4, .pc 1 0), (13, .ref 2), (14, .val (.int .i64)), (15, .val (.int .i64)), (4096, .val (.sl 2 (.int .i64))), (4097, .val (.sl 2 (.int .i64))), (4098, .pc 1 0), (4099, .fn 101 [.pc 3 0, .pc 4 0, .pc 1 0]), (4100, .val (.sl 34 (.pair (.int .i64) (.pair (.sl 2 (.int .i64)) .unit)))), (4101, .val (.int .i64)), (4102, .val (.int .i64))], [(0, .row 2 (.int .i64)), (1, .cell [.ref 0]), (2, .row 2 (.int .i64)), (3, .cell [.val (.int .i64)]), (4, .cell [.val (.int .i64)])], 5, []⟩
def oshi15004_1kx0 : Shape := ⟨[(4096, .val (.sl 2 (.int .i64))), (4097, .val (.sl 2 (.int .i64))), (4098, .pc 1 0), (4099, .fn 101 [.pc 2 0, .pc 3 0, .pc 1 0]), (4100, .val (.sl 34 (.pair (.int .i64) (.pair (.sl 2 (.int .i64)) .unit)))), (4101, .val (.int .i64)), (4102, .val (.int .i64))], [(0, .row 2 (.int .i64)), (1, .cell [.ref 0]), (2, .cell [.val (.int .i64)]), (3, .cell [.val (.int .i64)])], 4, []⟩
def uni15004_1 : Int × Int × (List Int) × (List Int) × (List (Int × ((List Int) × Unit))) × Int × Int × (List Int) × (List Int) × Int × Int → shi15004_1.V := fun (x14, x15, x4096, x4097, x4100, x4101, x4102, y0, y2, z3_0, z4_0) => (((), ((), (x14, (x15, (x4096, (x4097, ((), ((), (x4100, (x4101, (x4102, ()))))))))))), (y0, (((), ()), (y2, ((z3_0, ()), ((z4_0, ()), ()))))))
def fli15004_1 : shi15004_1.V → Int × Int × (List Int) × (List Int) × (List (Int × ((List Int) × Unit))) × Int × Int × (List Int) × (List Int) × Int × Int := fun ((_, (_, (x14, (x15, (x4096, (x4097, (_, (_, (x4100, (x4101, (x4102, _))))))))))), (y0, ((_, _), (y2, ((z3_0, _), ((z4_0, _), _)))))) => (x14, x15, x4096, x4097, x4100, x4101, x4102, y0, y2, z3_0, z4_0)
def i15004_L (k : Nat) (q : Nat) (s : St) (K : AExit → St → Option R) : Option R := bif Nat.beq q 1 then (match shi15004_1.dec s with | some v => i15004_l1 (R := R) k k (fli15004_1 v) (fun (x4096, x4097, x4100, x4101, x4102, y0, z2_0, z3_0) => K (.exit 0) (oshi15004_1kx0.enc ((x4096, (x4097, ((), ((), (x4100, (x4101, (x4102, ()))))))), (y0, (((), ()), ((z2_0, ()), ((z3_0, ()), ()))))))) | none => none) else (none)
def i8005_env (k : Nat) : Env := ⟨Try.prog, 28, AM.look none (tbl k), AM.look none [(1, some ⟨[(4, .asis), (13, .asis), (14, .asis), (15, .asis), (4096, .asis), (4097, .asis), (4098, .asis), (4099, .asis), (4100, .asis), (4101, .asis), (4102, .asis)], [(4096, .asis), (4097, .asis), (4098, .asis), (4099, .asis), (4100, .asis), (4101, .asis), (4102, .asis)]⟩)]⟩
def shi8005_1 : Shape := ⟨[(4, .pc 1 0), (13, .ref 2), (14, .val (.int .i64)), (15, .val (.int .i64)), (4096, .val (.sl 2 (.int .i64))), (4097, .val (.sl 2 (.int .i64))), (4098, .pc 1 0), (4099, .fn 101 [.pc 3 0, .pc 4 0, .pc 1 0]), (4100, .val (.sl 34 (.pair (.int .i64) (.pair (.sl 2 (.int .i64)) .unit)))), (4101, .val (.int .i64)), (4102, .val (.int .i64))], [(0, .row 2 (.int .i64)), (1, .cell [.ref 0]), (2, .row 2 (.int .i64)), (3, .cell [.val (.int .i64)]), (4, .cell [.val (.int .i64)])], 5, []⟩
def oshi8005_1kx0 : Shape := ⟨[(4096, .val (.sl 2 (.int .i64))), (4097, .val (.sl 2 (.int .i64))), (4098, .pc 1 0), (4099, .fn 101 [.pc 2 0, .pc 3 0, .pc 1 0]), (4100, .val (.sl 34 (.pair (.int .i64) (.pair (.sl 2 (.int .i64)) .unit)))), (4101, .val (.int .i64)), (4102, .val (.int .i64))], [(0, .row 2 (.int .i64)), (1, .cell [.ref 0]), (2, .cell [.val (.int .i64)]), (3, .cell [.val (.int .i64)])], 4, []⟩
def uni8005_1 : Int × Int × (List Int) × (List Int) × (List (Int × ((List Int) × Unit))) × Int × Int × (List Int) × (List Int) × Int × Int → shi8005_1.V := fun (x14, x15, x4096, x4097, x4100, x4101, x4102, y0, y2, z3_0, z4_0) => (((), ((), (x14, (x15, (x4096, (x4097, ((), ((), (x4100, (x4101, (x4102, ()))))))))))), (y0, (((), ()), (y2, ((z3_0, ()), ((z4_0, ()), ()))))))
def fli8005_1 : shi8005_1.V → Int × Int × (List Int) × (List Int) × (List (Int × ((List Int) × Unit))) × Int × Int × (List Int) × (List Int) × Int × Int := fun ((_, (_, (x14, (x15, (x4096, (x4097, (_, (_, (x4100, (x4101, (x4102, _))))))))))), (y0, ((_, _), (y2, ((z3_0, _), ((z4_0, _), _)))))) => (x14, x15, x4096, x4097, x4100, x4101, x4102, y0, y2, z3_0, z4_0)
def i8005_L (k : Nat) (q : Nat) (s : St) (K : AExit → St → Option R) : Option R := bif Nat.beq q 1 then (match shi8005_1.dec s with | some v => i8005_l1 (R := R) k k (fli8005_1 v) (fun (x4096, x4097, x4100, x4101, x4102, y0, z2_0, z3_0) => K (.exit 0) (oshi8005_1kx0.enc ((x4096, (x4097, ((), ((), (x4100, (x4101, (x4102, ()))))))), (y0, (((), ()), ((z2_0, ()), ((z3_0, ()), ()))))))) | none => none) else (none)
def i8005_J (k : Nat) : Inl R := noInl
def i15004_J (k : Nat) : Inl R := noInl
def i13004_J (k : Nat) : Inl R := noInl
def i11008_J (k : Nat) : Inl R := noInl
def i10005_J (k : Nat) : Inl R := noInl
def J (k : Nat) : Inl R := (inlCons 10005 101 (inst (i10005_env k) (i10005_J k) (i10005_L k) Try.f101 [1, 2, 10, 11, 13, 14, 21, 22, 23]) (inlCons 11008 101 (inst (i11008_env k) (i11008_J k) (i11008_L k) Try.f101 [1, 2, 10, 11, 21, 22, 23]) (inlCons 13004 101 (inst (i13004_env k) (i13004_J k) (i13004_L k) Try.f101 [1, 2, 10, 11, 21, 22, 23]) (inlCons 15004 101 (inst (i15004_env k) (i15004_J k) (i15004_L k) Try.f101 [1, 2, 10, 11, 21, 22, 23]) (inlCons 8005 101 (inst (i8005_env k) (i8005_J k) (i8005_L k) Try.f101 [1, 2, 10, 11, 21, 22, 23]) noInl)))))
theorem step5 (k n : Nat) (K : AExit → St → Option R) : ∀ v, aloop (aexec (env k) (J k) (L k) ((findLoop 5 (codeOf Try.f77)).getD .skip)) (normSt [(1, .asis), (2, .asis), (10, .asis), (11, .asis), (21, .asis), (22, .asis), (23, .asis)]) (normSt [(10, .asis)]) K (n + 1) (sh5.enc (un5 v)) = s5 (R := R) k (fun w => aloop (aexec (env k) (J k) (L k) ((findLoop 5 (codeOf Try.f77)).getD .skip)) (normSt [(1, .asis), (2, .asis), (10, .asis), (11, .asis), (21, .asis), (22, .asis), (23, .asis)]) (normSt [(10, .asis)]) K n (sh5.enc (un5 w))) (fun y0 => K (.exit 0) (osh5kx0.enc (((), ()), (y0, (((), ()), ()))))) v := by intro v; kernel_rfl
theorem stepi10005_1 (k n : Nat) (K : AExit → St → Option R) : ∀ v, aloop (aexec (i10005_env k) (i10005_J k) (i10005_L k) ((findLoop 1 (codeOf Try.f101)).getD .skip)) (normSt [(4, .asis), (13, .asis), (14, .asis), (15, .asis), (4096, .asis), (4097, .asis), (4098, .asis), (4099, .asis), (4100, .asis), (4101, .asis), (4102, .asis), (4103, .asis), (4104, .asis)]) (normSt [(4096, .asis), (4097, .asis), (4098, .asis), (4099, .asis), (4100, .asis), (4101, .asis), (4102, .asis), (4103, .asis), (4104, .asis)]) K (n + 1) (shi10005_1.enc (uni10005_1 v)) = i10005_s1 (R := R) k (fun w => aloop (aexec (i10005_env k) (i10005_J k) (i10005_L k) ((findLoop 1 (codeOf Try.f101)).getD .skip)) (normSt [(4, .asis), (13, .asis), (14, .asis), (15, .asis), (4096, .asis), (4097, .asis), (4098, .asis), (4099, .asis), (4100, .asis), (4101, .asis), (4102, .asis), (4103, .asis), (4104, .asis)]) (normSt [(4096, .asis), (4097, .asis), (4098, .asis), (4099, .asis), (4100, .asis), (4101, .asis), (4102, .asis), (4103, .asis), (4104, .asis)]) K n (shi10005_1.enc (uni10005_1 w))) (fun (x4096, x4097, x4102, x4103, x4104, y0, z2_0, z3_0, z4_0, z4_1, y5) => K (.exit 0) (oshi10005_1kx0.enc ((x4096, (x4097, ((), ((), ((), ((), (x4102, (x4103, (x4104, ()))))))))), (y0, (((), ()), ((z2_0, ()), ((z3_0, ()), ((z4_0, (z4_1, ())), (y5, ()))))))))) v := by intro v; kernel_rfl
theorem stepi11008_1 (k n : Nat) (K : AExit → St → Option R) : ∀ v, aloop (aexec (i11008_env k) (i11008_J k) (i11008_L k) ((findLoop 1 (codeOf Try.f101)).getD .skip)) (normSt [(4, .asis), (13, .asis), (14, .asis), (15, .asis), (4096, .asis), (4097, .asis), (4098, .asis), (4099, .asis), (4100, .asis), (4101, .asis), (4102, .asis)]) (normSt [(4096, .asis), (4097, .asis), (4098, .asis), (4099, .asis), (4100, .asis), (4101, .asis), (4102, .asis)]) K (n + 1) (shi11008_1.enc (uni11008_1 v)) = i11008_s1 (R := R) k (fun w => aloop (aexec (i11008_env k) (i11008_J k) (i11008_L k) ((findLoop 1 (codeOf Try.f101)).getD .skip)) (normSt [(4, .asis), (13, .asis), (14, .asis), (15, .asis), (4096, .asis), (4097, .asis), (4098, .asis), (4099, .asis), (4100, .asis), (4101, .asis), (4102, .asis)]) (normSt [(4096, .asis), (4097, .asis), (4098, .asis), (4099, .asis), (4100, .asis), (4101, .asis), (4102, .asis)]) K n (shi11008_1.enc (uni11008_1 w))) (fun (x4096, x4097, x4100, x4101, x4102, y0, z2_0, z3_0) => K (.exit 0) (oshi11008_1kx0.enc ((x4096, (x4097, ((), ((), (x4100, (x4101, (x4102, ()))))))), (y0, (((), ()), ((z2_0, ()), ((z3_0, ()), ()))))))) v := by intro v; kernel_rfl
theorem stepi13004_1 (k n : Nat) (K : AExit → St → Option R) : ∀ v, aloop (aexec (i13004_env k) (i13004_J k) (i13004_L k) ((findLoop 1 (codeOf Try.f101)).getD .skip)) (normSt [(4, .asis), (13, .asis), (14, .asis), (15, .asis), (4096, .asis), (4097, .asis), (4098, .asis), (4099, .asis), (4100, .asis), (4101, .asis), (4102, .asis)]) (normSt [(4096, .asis), (4097, .asis), (4098, .asis), (4099, .asis), (4100, .asis), (4101, .asis), (4102, .asis)]) K (n + 1) (shi13004_1.enc (uni13004_1 v)) = i13004_s1 (R := R) k (fun w => aloop (aexec (i13004_env k) (i13004_J k) (i13004_L k) ((findLoop 1 (codeOf Try.f101)).getD .skip)) (normSt [(4, .asis), (13, .asis), (14, .asis), (15, .asis), (4096, .asis), (4097, .asis), (4098, .asis), (4099, .asis), (4100, .asis), (4101, .asis), (4102, .asis)]) (normSt [(4096, .asis), (4097, .asis), (4098, .asis), (4099, .asis), (4100, .asis), (4101, .asis), (4102, .asis)]) K n (shi13004_1.enc (uni13004_1 w))) (fun (x4096, x4097, x4100, x4101, x4102, y0, z2_0, z3_0) => K (.exit 0) (oshi13004_1kx0.enc ((x4096, (x4097, ((), ((), (x4100, (x4101, (x4102, ()))))))), (y0, (((), ()), ((z2_0, ()), ((z3_0, ()), ()))))))) v := by intro v; kernel_rfl
theorem stepi15004_1 (k n : Nat) (K : AExit → St → Option R) : ∀ v, aloop (aexec (i15004_env k) (i15004_J k) (i15004_L k) ((findLoop 1 (codeOf Try.f101)).getD .skip)) (normSt [(4, .asis), (13, .asis), (14, .asis), (15, .asis), (4096, .asis), (4097, .asis), (4098, .asis), (4099, .asis), (4100, .asis), (4101, .asis), (4102, .asis)]) (normSt [(4096, .asis), (4097, .asis), (4098, .asis), (4099, .asis), (4100, .asis), (4101, .asis), (4102, .asis)]) K (n + 1) (shi15004_1.enc (uni15004_1 v)) = i15004_s1 (R := R) k (fun w => aloop (aexec (i15004_env k) (i15004_J k) (i15004_L k) ((findLoop 1 (codeOf Try.f101)).getD .skip)) (normSt [(4, .asis), (13, .asis), (14, .asis), (15, .asis), (4096, .asis), (4097, .asis), (4098, .asis), (4099, .asis), (4100, .asis), (4101, .asis), (4102, .asis)]) (normSt [(4096, .asis), (4097, .asis), (4098, .asis), (4099, .asis), (4100, .asis), (4101, .asis), (4102, .asis)]) K n (shi15004_1.enc (uni15004_1 w))) (fun (x4096, x4097, x4100, x4101, x4102, y0, z2_0, z3_0) => K (.exit 0) (oshi15004_1kx0.enc ((x4096, (x4097, ((), ((), (x4100, (x4101, (x4102, ()))))))), (y0, (((), ()), ((z2_0, ()), ((z3_0, ()), ()))))))) v := by intro v; kernel_rfl
theorem stepi8005_1 (k n : Nat) (K : AExit → St → Option R) : ∀ v, aloop (aexec (i8005_env k) (i8005_J k) (i8005_L k) ((findLoop 1 (codeOf Try.f101)).getD .skip)) (normSt [(4, .asis), (13, .asis), (14, .asis), (15, .asis), (4096, .asis), (4097, .asis), (4098, .asis), (4099, .asis), (4100, .asis), (4101, .asis), (4102, .asis)]) (normSt [(4096, .asis), (4097, .asis), (4098, .asis), (4099, .asis), (4100, .asis), (4101, .asis), (4102, .asis)]) K (n + 1) (shi8005_1.enc (uni8005_1 v)) = i8005_s1 (R := R) k (fun w => aloop (aexec (i8005_env k) (i8005_J k) (i8005_L k) ((findLoop 1 (codeOf Try.f101)).getD .skip)) (normSt [(4, .asis), (13, .asis), (14, .asis), (15, .asis), (4096, .asis), (4097, .asis), (4098, .asis), (4099, .asis), (4100, .asis), (4101, .asis), (4102, .asis)]) (normSt [(4096, .asis), (4097, .asis), (4098, .asis), (4099, .asis), (4100, .asis), (4101, .asis), (4102, .asis)]) K n (shi8005_1.enc (uni8005_1 w))) (fun (x4096, x4097, x4100, x4101, x4102, y0, z2_0, z3_0) => K (.exit 0) (oshi8005_1kx0.enc ((x4096, (x4097, ((), ((), (x4100, (x4101, (x4102, ()))))))), (y0, (((), ()), ((z2_0, ()), ((z3_0, ()), ()))))))) v := by intro v; kernel_rfl
theorem eq (k : Nat) : ∀ a, aexec (env k) (J k) (L k) (codeOf Try.f77) (begSt [.ro (.sl 34 (.pair (.int .i64) (.pair (.sl 2 (.int .i64)) .unit))), .ro (.sl 2 (.int .i64)), .ro (.sl 2 (.int .i64)), .ro (.int .i64)] a) (finK (env k) Try.f77 [.ro (.sl 34 (.pair (.int .i64) (.pair (.sl 2 (.int .i64)) .unit))), .ro (.sl 2 (.int .i64)), .ro (.sl 2 (.int .i64)), .ro (.int .i64)] [.own (.sl 2 (.int .i64))]) = (entry k).fn a := by intro a; kernel_rfl
theorem run5 (k : Nat) (K : AExit → St → Option R) : ∀ n v, aloop (aexec (env k) (J k) (L k) ((findLoop 5 (codeOf Try.f77)).getD .skip)) (normSt [(1, .asis), (2, .asis), (10, .asis), (11, .asis), (21, .asis), (22, .asis), (23, .asis)]) (normSt [(10, .asis)]) K n (sh5.enc (un5 v)) = l5 (R := R) k n v (fun y0 => K (.exit 0) (osh5kx0.enc (((), ()), (y0, (((), ()), ()))))) := loop_eq (fun n v => aloop (aexec (env k) (J k) (L k) ((findLoop 5 (codeOf Try.f77)).getD .skip)) (normSt [(1, .asis), (2, .asis), (10, .asis), (11, .asis), (21, .asis), (22, .asis), (23, .asis)]) (normSt [(10, .asis)]) K n (sh5.enc (un5 v))) (fun n v => l5 (R := R) k n v (fun y0 => K (.exit 0) (osh5kx0.enc (((), ()), (y0, (((), ()), ())))))) (fun X v => s5 (R := R) k X (fun y0 => K (.exit 0) (osh5kx0.enc (((), ()), (y0, (((), ()), ()))))) v) (fun _ => rfl) (fun n v => step5 k n K v) (fun n v => rfl)
theorem loops (k : Nat) : LoopsOk (env k) (J k) (L k) (codeOf Try.f77) := by
  intro c an hc han s K r h
  unfold L at h
  by_cases q5 : firstRegion c = 5
  · have h1 := key_eq q5 h
    rw [q5] at hc han
    have e2 : an = ⟨[(1, .asis), (2, .asis), (10, .asis), (11, .asis), (21, .asis), (22, .asis), (23, .asis)], [(10, .asis)]⟩ := (Option.some.inj (show some _ = some an from han)).symm
    have e1 : c = (findLoop 5 (codeOf Try.f77)).getD .skip := by rw [hc]; rfl
    cases hd : sh5.dec s with
    | none => rw [hd] at h1; cases h1
    | some v =>
      rw [hd] at h1
      refine ⟨k, ?_⟩
      rw [e1, e2, Shape.dec_enc _ _ _ hd]
      exact (run5 k K k (fl5 v)).trans h1
  have h := not_key q5 h
  cases h
theorem runi10005_1 (k : Nat) (K : AExit → St → Option R) : ∀ n v, aloop (aexec (i10005_env k) (i10005_J k) (i10005_L k) ((findLoop 1 (codeOf Try.f101)).getD .skip)) (normSt [(4, .asis), (13, .asis), (14, .asis), (15, .asis), (4096, .asis), (4097, .asis), (4098, .asis), (4099, .asis), (4100, .asis), (4101, .asis), (4102, .asis), (4103, .asis), (4104, .asis)]) (normSt [(4096, .asis), (4097, .asis), (4098, .asis), (4099, .asis), (4100, .asis), (4101, .asis), (4102, .asis), (4103, .asis), (4104, .asis)]) K n (shi10005_1.enc (uni10005_1 v)) = i10005_l1 (R := R) k n v (fun (x4096, x4097, x4102, x4103, x4104, y0, z2_0, z3_0, z4_0, z4_1, y5) => K (.exit 0) (oshi10005_1kx0.enc ((x4096, (x4097, ((), ((), ((), ((), (x4102, (x4103, (x4104, ()))))))))), (y0, (((), ()), ((z2_0, ()), ((z3_0, ()), ((z4_0, (z4_1, ())), (y5, ()))))))))) := loop_eq (fun n v => aloop (aexec (i10005_env k) (i10005_J k) (i10005_L k) ((findLoop 1 (codeOf Try.f101)).getD .skip)) (normSt [(4, .asis), (13, .asis), (14, .asis), (15, .asis), (4096, .asis), (4097, .asis), (4098, .asis), (4099, .asis), (4100, .asis), (4101, .asis), (4102, .asis), (4103, .asis), (4104, .asis)]) (normSt [(4096, .asis), (4097, .asis), (4098, .asis), (4099, .asis), (4100, .asis), (4101, .asis), (4102, .asis), (4103, .asis), (4104, .asis)]) K n (shi10005_1.enc (uni10005_1 v))) (fun n v => i10005_l1 (R := R) k n v (fun (x4096, x4097, x4102, x4103, x4104, y0, z2_0, z3_0, z4_0, z4_1, y5) => K (.exit 0) (oshi10005_1kx0.enc ((x4096, (x4097, ((), ((), ((), ((), (x4102, (x4103, (x4104, ()))))))))), (y0, (((), ()), ((z2_0, ()), ((z3_0, ()), ((z4_0, (z4_1, ())), (y5, ())))))))))) (fun X v => i10005_s1 (R := R) k X (fun (x4096, x4097, x4102, x4103, x4104, y0, z2_0, z3_0, z4_0, z4_1, y5) => K (.exit 0) (oshi10005_1kx0.enc ((x4096, (x4097, ((), ((), ((), ((), (x4102, (x4103, (x4104, ()))))))))), (y0, (((), ()), ((z2_0, ()), ((z3_0, ()), ((z4_0, (z4_1, ())), (y5, ()))))))))) v) (fun _ => rfl) (fun n v => stepi10005_1 k n K v) (fun n v => rfl)
theorem i10005_loops (k : Nat) : LoopsOk (i10005_env k) (i10005_J k) (i10005_L k) (codeOf Try.f101) := by
  intro c an hc han s K r h
  unfold i10005_L at h
  by_cases q1 : firstRegion c = 1
  · have h1 := key_eq q1 h
    rw [q1] at hc han
    have e2 : an = ⟨[(4, .asis), (13, .asis), (14, .asis), (15, .asis), (4096, .asis), (4097, .asis), (4098, .asis), (4099, .asis), (4100, .asis), (4101, .asis), (4102, .asis), (4103, .asis), (4104, .asis)], [(4096, .asis), (4097, .asis), (4098, .asis), (4099, .asis), (4100, .asis), (4101, .asis), (4102, .asis), (4103, .asis), (4104, .asis)]⟩ := (Option.some.inj (show some _ = some an from han)).symm
    have e1 : c = (findLoop 1 (codeOf Try.f101)).getD .skip := by rw [hc]; rfl
    cases hd : shi10005_1.dec s with
    | none => rw [hd] at h1; cases h1
    | some v =>
      rw [hd] at h1
      refine ⟨k, ?_⟩
      rw [e1, e2, Shape.dec_enc _ _ _ hd]
      exact (runi10005_1 k K k (fli10005_1 v)).trans h1
  have h := not_key q1 h
  cases h
theorem runi11008_1 (k : Nat) (K : AExit → St → Option R) : ∀ n v, aloop (aexec (i11008_env k) (i11008_J k) (i11008_L k) ((findLoop 1 (codeOf Try.f101)).getD .skip)) (normSt [(4, .asis), (13, .asis), (14, .asis), (15, .asis), (4096, .asis), (4097, .asis), (4098, .asis), (4099, .asis), (4100, .asis), (4101, .asis), (4102, .asis)]) (normSt [(4096, .asis), (4097, .asis), (4098, .asis), (4099, .asis), (4100, .asis), (4101, .asis), (4102, .asis)]) K n (shi11008_1.enc (uni11008_1 v)) = i11008_l1 (R := R) k n v (fun (x4096, x4097, x4100, x4101, x4102, y0, z2_0, z3_0) => K (.exit 0) (oshi11008_1kx0.enc ((x4096, (x4097, ((), ((), (x4100, (x4101, (x4102, ()))))))), (y0, (((), ()), ((z2_0, ()), ((z3_0, ()), ()))))))) := loop_eq (fun n v => aloop (aexec (i11008_env k) (i11008_J k) (i11008_L k) ((findLoop 1 (codeOf Try.f101)).getD .skip)) (normSt [(4, .asis), (13, .asis), (14, .asis), (15, .asis), (4096, .asis), (4097, .asis), (4098, .asis), (4099, .asis), (4100, .asis), (4101, .asis), (4102, .asis)]) (normSt [(4096, .asis), (4097, .asis), (4098, .asis), (4099, .asis), (4100, .asis), (4101, .asis), (4102, .asis)]) K n (shi11008_1.enc (uni11008_1 v))) (fun n v => i11008_l1 (R := R) k n v (fun (x4096, x4097, x4100, x4101, x4102, y0, z2_0, z3_0) => K (.exit 0) (oshi11008_1kx0.enc ((x4096, (x4097, ((), ((), (x4100, (x4101, (x4102, ()))))))), (y0, (((), ()), ((z2_0, ()), ((z3_0, ()), ())))))))) (fun X v => i11008_s1 (R := R) k X (fun (x4096, x4097, x4100, x4101, x4102, y0, z2_0, z3_0) => K (.exit 0) (oshi11008_1kx0.enc ((x4096, (x4097, ((), ((), (x4100, (x4101, (x4102, ()))))))), (y0, (((), ()), ((z2_0, ()), ((z3_0, ()), ()))))))) v) (fun _ => rfl) (fun n v => stepi11008_1 k n K v) (fun n v => rfl)
theorem i11008_loops (k : Nat) : LoopsOk (i11008_env k) (i11008_J k) (i11008_L k) (codeOf Try.f101) := by
  intro c an hc han s K r h
  unfold i11008_L at h
  by_cases q1 : firstRegion c = 1
  · have h1 := key_eq q1 h
    rw [q1] at hc han
    have e2 : an = ⟨[(4, .asis), (13, .asis), (14, .asis), (15, .asis), (4096, .asis), (4097, .asis), (4098, .asis), (4099, .asis), (4100, .asis), (4101, .asis), (4102, .asis)], [(4096, .asis), (4097, .asis), (4098, .asis), (4099, .asis), (4100, .asis), (4101, .asis), (4102, .asis)]⟩ := (Option.some.inj (show some _ = some an from han)).symm
    have e1 : c = (findLoop 1 (codeOf Try.f101)).getD .skip := by rw [hc]; rfl
    cases hd : shi11008_1.dec s with
    | none => rw [hd] at h1; cases h1
    | some v =>
      rw [hd] at h1
      refine ⟨k, ?_⟩
      rw [e1, e2, Shape.dec_enc _ _ _ hd]
      exact (runi11008_1 k K k (fli11008_1 v)).trans h1
  have h := not_key q1 h
  cases h
theorem runi13004_1 (k : Nat) (K : AExit → St → Option R) : ∀ n v, aloop (aexec (i13004_env k) (i13004_J k) (i13004_L k) ((findLoop 1 (codeOf Try.f101)).getD .skip)) (normSt [(4, .asis), (13, .asis), (14, .asis), (15, .asis), (4096, .asis), (4097, .asis), (4098, .asis), (4099, .asis), (4100, .asis), (4101, .asis), (4102, .asis)]) (normSt [(4096, .asis), (4097, .asis), (4098, .asis), (4099, .asis), (4100, .asis), (4101, .asis), (4102, .asis)]) K n (shi13004_1.enc (uni13004_1 v)) = i13004_l1 (R := R) k n v (fun (x4096, x4097, x4100, x4101, x4102, y0, z2_0, z3_0) => K (.exit 0) (oshi13004_1kx0.enc ((x4096, (x4097, ((), ((), (x4100, (x4101, (x4102, ()))))))), (y0, (((), ()), ((z2_0, ()), ((z3_0, ()), ()))))))) := loop_eq (fun n v => aloop (aexec (i13004_env k) (i13004_J k) (i13004_L k) ((findLoop 1 (codeOf Try.f101)).getD .skip)) (normSt [(4, .asis), (13, .asis), (14, .asis), (15, .asis), (4096, .asis), (4097, .asis), (4098, .asis), (4099, .asis), (4100, .asis), (4101, .asis), (4102, .asis)]) (normSt [(4096, .asis), (4097, .asis), (4098, .asis), (4099, .asis), (4100, .asis), (4101, .asis), (4102, .asis)]) K n (shi13004_1.enc (uni13004_1 v))) (fun n v => i13004_l1 (R := R) k n v (fun (x4096, x4097, x4100, x4101, x4102, y0, z2_0, z3_0) => K (.exit 0) (oshi13004_1kx0.enc ((x4096, (x4097, ((), ((), (x4100, (x4101, (x4102, ()))))))), (y0, (((), ()), ((z2_0, ()), ((z3_0, ()), ())))))))) (fun X v => i13004_s1 (R := R) k X (fun (x4096, x4097, x4100, x4101, x4102, y0, z2_0, z3_0) => K (.exit 0) (oshi13004_1kx0.enc ((x4096, (x4097, ((), ((), (x4100, (x4101, (x4102, ()))))))), (y0, (((), ()), ((z2_0, ()), ((z3_0, ()), ()))))))) v) (fun _ => rfl) (fun n v => stepi13004_1 k n K v) (fun n v => rfl)
theorem i13004_loops (k : Nat) : LoopsOk (i13004_env k) (i13004_J k) (i13004_L k) (codeOf Try.f101) := by
  intro c an hc han s K r h
  unfold i13004_L at h
  by_cases q1 : firstRegion c = 1
  · have h1 := key_eq q1 h
    rw [q1] at hc han
    have e2 : an = ⟨[(4, .asis), (13, .asis), (14, .asis), (15, .asis), (4096, .asis), (4097, .asis), (4098, .asis), (4099, .asis), (4100, .asis), (4101, .asis), (4102, .asis)], [(4096, .asis), (4097, .asis), (4098, .asis), (4099, .asis), (4100, .asis), (4101, .asis), (4102, .asis)]⟩ := (Option.some.inj (show some _ = some an from han)).symm
    have e1 : c = (findLoop 1 (codeOf Try.f101)).getD .skip := by rw [hc]; rfl
    cases hd : shi13004_1.dec s with
    | none => rw [hd] at h1; cases h1
    | some v =>
      rw [hd] at h1
      refine ⟨k, ?_⟩
      rw [e1, e2, Shape.dec_enc _ _ _ hd]
      exact (runi13004_1 k K k (fli13004_1 v)).trans h1
  have h := not_key q1 h
  cases h
theorem runi15004_1 (k : Nat) (K : AExit → St → Option R) : ∀ n v, aloop (aexec (i15004_env k) (i15004_J k) (i15004_L k) ((findLoop 1 (codeOf Try.f101)).getD .skip)) (normSt [(4, .asis), (13, .asis), (14, .asis), (15, .asis), (4096, .asis), (4097, .asis), (4098, .asis), (4099, .asis), (4100, .asis), (4101, .asis), (4102, .asis)]) (normSt [(4096, .asis), (4097, .asis), (4098, .asis), (4099, .asis), (4100, .asis), (4101, .asis), (4102, .asis)]) K n (shi15004_1.enc (uni15004_1 v)) = i15004_l1 (R := R) k n v (fun (x4096, x4097, x4100, x4101, x4102, y0, z2_0, z3_0) => K (.exit 0) (oshi15004_1kx0.enc ((x4096, (x4097, ((), ((), (x4100, (x4101, (x4102, ()))))))), (y0, (((), ()), ((z2_0, ()), ((z3_0, ()), ()))))))) := loop_eq (fun n v => aloop (aexec (i15004_env k) (i15004_J k) (i15004_L k) ((findLoop 1 (codeOf Try.f101)).getD .skip)) (normSt [(4, .asis), (13, .asis), (14, .asis), (15, .asis), (4096, .asis), (4097, .asis), (4098, .asis), (4099, .asis), (4100, .asis), (4101, .asis), (4102, .asis)]) (normSt [(4096, .asis), (4097, .asis), (4098, .asis), (4099, .asis), (4100, .asis), (4101, .asis), (4102, .asis)]) K n (shi15004_1.enc (uni15004_1 v))) (fun n v => i15004_l1 (R := R) k n v (fun (x4096, x4097, x4100, x4101, x4102, y0, z2_0, z3_0) => K (.exit 0) (oshi15004_1kx0.enc ((x4096, (x4097, ((), ((), (x4100, (x4101, (x4102, ()))))))), (y0, (((), ()), ((z2_0, ()), ((z3_0, ()), ())))))))) (fun X v => i15004_s1 (R := R) k X (fun (x4096, x4097, x4100, x4101, x4102, y0, z2_0, z3_0) => K (.exit 0) (oshi15004_1kx0.enc ((x4096, (x4097, ((), ((), (x4100, (x4101, (x4102, ()))))))), (y0, (((), ()), ((z2_0, ()), ((z3_0, ()), ()))))))) v) (fun _ => rfl) (fun n v => stepi15004_1 k n K v) (fun n v => rfl)
theorem i15004_loops (k : Nat) : LoopsOk (i15004_env k) (i15004_J k) (i15004_L k) (codeOf Try.f101) := by
  intro c an hc han s K r h
  unfold i15004_L at h
  by_cases q1 : firstRegion c = 1
  · have h1 := key_eq q1 h
    rw [q1] at hc han
    have e2 : an = ⟨[(4, .asis), (13, .asis), (14, .asis), (15, .asis), (4096, .asis), (4097, .asis), (4098, .asis), (4099, .asis), (4100, .asis), (4101, .asis), (4102, .asis)], [(4096, .asis), (4097, .asis), (4098, .asis), (4099, .asis), (4100, .asis), (4101, .asis), (4102, .asis)]⟩ := (Option.some.inj (show some _ = some an from han)).symm
    have e1 : c = (findLoop 1 (codeOf Try.f101)).getD .skip := by rw [hc]; rfl
    cases hd : shi15004_1.dec s with
    | none => rw [hd] at h1; cases h1
    | some v =>
      rw [hd] at h1
      refine ⟨k, ?_⟩
      rw [e1, e2, Shape.dec_enc _ _ _ hd]
      exact (runi15004_1 k K k (fli15004_1 v)).trans h1
  have h := not_key q1 h
  cases h
theorem runi8005_1 (k : Nat) (K : AExit → St → Option R) : ∀ n v, aloop (aexec (i8005_env k) (i8005_J k) (i8005_L k) ((findLoop 1 (codeOf Try.f101)).getD .skip)) (normSt [(4, .asis), (13, .asis), (14, .asis), (15, .asis), (4096, .asis), (4097, .asis), (4098, .asis), (4099, .asis), (4100, .asis), (4101, .asis), (4102, .asis)]) (normSt [(4096, .asis), (4097, .asis), (4098, .asis), (4099, .asis), (4100, .asis), (4101, .asis), (4102, .asis)]) K n (shi8005_1.enc (uni8005_1 v)) = i8005_l1 (R := R) k n v (fun (x4096, x4097, x4100, x4101, x4102, y0, z2_0, z3_0) => K (.exit 0) (oshi8005_1kx0.enc ((x4096, (x4097, ((), ((), (x4100, (x4101, (x4102, ()))))))), (y0, (((), ()), ((z2_0, ()), ((z3_0, ()), ()))))))) := loop_eq (fun n v => aloop (aexec (i8005_env k) (i8005_J k) (i8005_L k) ((findLoop 1 (codeOf Try.f101)).getD .skip)) (normSt [(4, .asis), (13, .asis), (14, .asis), (15, .asis), (4096, .asis), (4097, .asis), (4098, .asis), (4099, .asis), (4100, .asis), (4101, .asis), (4102, .asis)]) (normSt [(4096, .asis), (4097, .asis), (4098, .asis), (4099, .asis), (4100, .asis), (4101, .asis), (4102, .asis)]) K n (shi8005_1.enc (uni8005_1 v))) (fun n v => i8005_l1 (R := R) k n v (fun (x4096, x4097, x4100, x4101, x4102, y0, z2_0, z3_0) => K (.exit 0) (oshi8005_1kx0.enc ((x4096, (x4097, ((), ((), (x4100, (x4101, (x4102, ()))))))), (y0, (((), ()), ((z2_0, ()), ((z3_0, ()), ())))))))) (fun X v => i8005_s1 (R := R) k X (fun (x4096, x4097, x4100, x4101, x4102, y0, z2_0, z3_0) => K (.exit 0) (oshi8005_1kx0.enc ((x4096, (x4097, ((), ((), (x4100, (x4101, (x4102, ()))))))), (y0, (((), ()), ((z2_0, ()), ((z3_0, ()), ()))))))) v) (fun _ => rfl) (fun n v => stepi8005_1 k n K v) (fun n v => rfl)
theorem i8005_loops (k : Nat) : LoopsOk (i8005_env k) (i8005_J k) (i8005_L k) (codeOf Try.f101) := by
  intro c an hc han s K r h
  unfold i8005_L at h
  by_cases q1 : firstRegion c = 1
  · have h1 := key_eq q1 h
    rw [q1] at hc han
    have e2 : an = ⟨[(4, .asis), (13, .asis), (14, .asis), (15, .asis), (4096, .asis), (4097, .asis), (4098, .asis), (4099, .asis), (4100, .asis), (4101, .asis), (4102, .asis)], [(4096, .asis), (4097, .asis), (4098, .asis), (4099, .asis), (4100, .asis), (4101, .asis), (4102, .asis)]⟩ := (Option.some.inj (show some _ = some an from han)).symm
    have e1 : c = (findLoop 1 (codeOf Try.f101)).getD .skip := by rw [hc]; rfl
    cases hd : shi8005_1.dec s with
    | none => rw [hd] at h1; cases h1
    | some v =>
      rw [hd] at h1
      refine ⟨k, ?_⟩
      rw [e1, e2, Shape.dec_enc _ _ _ hd]
      exact (runi8005_1 k K k (fli8005_1 v)).trans h1
  have h := not_key q1 h
  cases h
theorem i8005_fit (k : Nat) : codeFit (i8005_env k) (codeOf Try.f101) = true := by kernel_rfl
theorem i8005_lps : (loopsIn (codeOf Try.f101)).map (fun d => findLoop (firstRegion d) (codeOf Try.f101)) = (loopsIn (codeOf Try.f101)).map some := by kernel_rfl
theorem i8005_hf : Try.prog.funcs[101]? = some Try.f101 := by kernel_rfl
theorem i8005_hb : Try.f101.body = some (codeOf Try.f101) := by kernel_rfl
theorem i8005_hn : (Try.f101.name == "runtime.NumGoroutine") = false := by kernel_rfl
theorem i8005_hJ (k : Nat) : ∀ C : Ctx, C.P = Try.prog → ∀ r, InlOk C (i8005_J k) r := fun C hC r => noInl_ok
theorem i8005_one (k : Nat) (C : Ctx) (hC : C.P = Try.prog) (r : R) : OneOk C 101 (inst (i8005_env k) (i8005_J k) (i8005_L k) Try.f101 [1, 2, 10, 11, 21, 22, 23]) r := inst_ok hC (by kernel_rfl) (by kernel_rfl) (by kernel_rfl) (by kernel_rfl) (tbl_cons (impl_splitChips.sound k) (tbl_cons (impl_highWinners.sound k) (tbl_cons (impl_lowWinners.sound k) tbl_nil))) i8005_hf i8005_hb i8005_hn (i8005_fit k) (loops_all i8005_lps) (fun C hC => i8005_hJ k C hC r) (i8005_loops k)
theorem i15004_fit (k : Nat) : codeFit (i15004_env k) (codeOf Try.f101) = true := by kernel_rfl
theorem i15004_lps : (loopsIn (codeOf Try.f101)).map (fun d => findLoop (firstRegion d) (codeOf Try.f101)) = (loopsIn (codeOf Try.f101)).map some := by kernel_rfl
theorem i15004_hf : Try.prog.funcs[101]? = some Try.f101 := by kernel_rfl
theorem i15004_hb : Try.f101.body = some (codeOf Try.f101) := by kernel_rfl
theorem i15004_hn : (Try.f101.name == "runtime.NumGoroutine") = false := by kernel_rfl
theorem i15004_hJ (k : Nat) : ∀ C : Ctx, C.P = Try.prog → ∀ r, InlOk C (i15004_J k) r := fun C hC r => noInl_ok
theorem i15004_one (k : Nat) (C : Ctx) (hC : C.P = Try.prog) (r : R) : OneOk C 101 (inst (i15004_env k) (i15004_J k) (i15004_L k) Try.f101 [1, 2, 10, 11, 21, 22, 23]) r := inst_ok hC (by kernel_rfl) (by kernel_rfl) (by kernel_rfl) (by kernel_rfl) (tbl_cons (impl_splitChips.sound k) (tbl_cons (impl_highWinners.sound k) (tbl_cons (impl_lowWinners.sound k) tbl_nil))) i15004_hf i15004_hb i15004_hn (i15004_fit k) (loops_all i15004_lps) (fun C hC => i15004_hJ k C hC r) (i15004_loops k)
theorem i13004_fit (k : Nat) : codeFit (i13004_env k) (codeOf Try.f101) = true := by kernel_rfl
theorem i13004_lps : (loopsIn (codeOf Try.f101)).map (fun d => findLoop (firstRegion d) (codeOf Try.f101)) = (loopsIn (codeOf Try.f101)).map some := by kernel_rfl
theorem i13004_hf : Try.prog.funcs[101]? = some Try.f101 := by kernel_rfl
theorem i13004_hb : Try.f101.body = some (codeOf Try.f101) := by kernel_rfl
theorem i13004_hn : (Try.f101.name == "runtime.NumGoroutine") = false := by kernel_rfl
theorem i13004_hJ (k : Nat) : ∀ C : Ctx, C.P = Try.prog → ∀ r, InlOk C (i13004_J k) r := fun C hC r => noInl_ok
theorem i13004_one (k : Nat) (C : Ctx) (hC : C.P = Try.prog) (r : R) : OneOk C 101 (inst (i13004_env k) (i13004_J k) (i13004_L k) Try.f101 [1, 2, 10, 11, 21, 22, 23]) r := inst_ok hC (by kernel_rfl) (by kernel_rfl) (by kernel_rfl) (by kernel_rfl) (tbl_cons (impl_splitChips.sound k) (tbl_cons (impl_highWinners.sound k) (tbl_cons (impl_lowWinners.sound k) tbl_nil))) i13004_hf i13004_hb i13004_hn (i13004_fit k) (loops_all i13004_lps) (fun C hC => i13004_hJ k C hC r) (i13004_loops k)
theorem i11008_fit (k : Nat) : codeFit (i11008_env k) (codeOf Try.f101) = true := by kernel_rfl
theorem i11008_lps : (loopsIn (codeOf Try.f101)).map (fun d => findLoop (firstRegion d) (codeOf Try.f101)) = (loopsIn (codeOf Try.f101)).map some := by kernel_rfl
theorem i11008_hf : Try.prog.funcs[101]? = some Try.f101 := by kernel_rfl
theorem i11008_hb : Try.f101.body = some (codeOf Try.f101) := by kernel_rfl
theorem i11008_hn : (Try.f101.name == "runtime.NumGoroutine") = false := by kernel_rfl
theorem i11008_hJ (k : Nat) : ∀ C : Ctx, C.P = Try.prog → ∀ r, InlOk C (i11008_J k) r := fun C hC r => noInl_ok
theorem i11008_one (k : Nat) (C : Ctx) (hC : C.P = Try.prog) (r : R) : OneOk C 101 (inst (i11008_env k) (i11008_J k) (i11008_L k) Try.f101 [1, 2, 10, 11, 21, 22, 23]) r := inst_ok hC (by kernel_rfl) (by kernel_rfl) (by kernel_rfl) (by kernel_rfl) (tbl_cons (impl_splitChips.sound k) (tbl_cons (impl_highWinners.sound k) (tbl_cons (impl_lowWinners.sound k) tbl_nil))) i11008_hf i11008_hb i11008_hn (i11008_fit k) (loops_all i11008_lps) (fun C hC => i11008_hJ k C hC r) (i11008_loops k)
theorem i10005_fit (k : Nat) : codeFit (i10005_env k) (codeOf Try.f101) = true := by kernel_rfl
theorem i10005_lps : (loopsIn (codeOf Try.f101)).map (fun d => findLoop (firstRegion d) (codeOf Try.f101)) = (loopsIn (codeOf Try.f101)).map some := by kernel_rfl
theorem i10005_hf : Try.prog.funcs[101]? = some Try.f101 := by kernel_rfl
theorem i10005_hb : Try.f101.body = some (codeOf Try.f101) := by kernel_rfl
theorem i10005_hn : (Try.f101.name == "runtime.NumGoroutine") = false := by kernel_rfl
theorem i10005_hJ (k : Nat) : ∀ C : Ctx, C.P = Try.prog → ∀ r, InlOk C (i10005_J k) r := fun C hC r => noInl_ok
theorem i10005_one (k : Nat) (C : Ctx) (hC : C.P = Try.prog) (r : R) : OneOk C 101 (inst (i10005_env k) (i10005_J k) (i10005_L k) Try.f101 [1, 2, 10, 11, 13, 14, 21, 22, 23]) r := inst_ok hC (by kernel_rfl) (by kernel_rfl) (by kernel_rfl) (by kernel_rfl) (tbl_cons (impl_splitChips.sound k) (tbl_cons (impl_highWinners.sound k) (tbl_cons (impl_lowWinners.sound k) tbl_nil))) i10005_hf i10005_hb i10005_hn (i10005_fit k) (loops_all i10005_lps) (fun C hC => i10005_hJ k C hC r) (i10005_loops k)
theorem fit (k : Nat) : codeFit (env k) (codeOf Try.f77) = true := by kernel_rfl
theorem lps : (loopsIn (codeOf Try.f77)).map (fun d => findLoop (firstRegion d) (codeOf Try.f77)) = (loopsIn (codeOf Try.f77)).map some := by kernel_rfl
theorem hf : Try.prog.funcs[77]? = some Try.f77 := by kernel_rfl
theorem hb : Try.f77.body = some (codeOf Try.f77) := by kernel_rfl
theorem hn : (Try.f77.name == "runtime.NumGoroutine") = false := by kernel_rfl
theorem hJ (k : Nat) : ∀ C : Ctx, C.P = Try.prog → ∀ r, InlOk C (J k) r := fun C hC r => (inlCons_ok (i10005_one k C hC r) (inlCons_ok (i11008_one k C hC r) (inlCons_ok (i13004_one k C hC r) (inlCons_ok (i15004_one k C hC r) (inlCons_ok (i8005_one k C hC r) noInl_ok)))))
theorem sound (k : Nat) : Sound Try.prog 77 (entry k) := func_sound (E := env k) (by kernel_rfl) (by kernel_rfl) (by kernel_rfl) (by kernel_rfl) (tbl_cons (impl_splitChips.sound k) (tbl_cons (impl_highWinners.sound k) (tbl_cons (impl_lowWinners.sound k) tbl_nil))) hf hb hn (fit k) (loops_all lps) (hJ k) (loops k) (eq k)
end impl_awarded

namespace impl_AwardPots
def entry (k : Nat) : Entry := ⟨[.ro (.sl 34 (.pair (.int .i64) (.pair (.sl 2 (.int .i64)) .unit))), .ro (.sl 2 (.int .i64)), .ro (.sl 2 (.int .i64)), .ro (.int .i64)], [.own (.sl 2 (.int .i64)), .own (.int .i64)], fun (a0, (a1, (a2, (a3, _)))) => f k a0 a1 a2 a3⟩
def tbl (k : Nat) : List (Nat × Option Entry) := [(59, some (impl_within.entry k)), (60, some (impl_areWinners.entry k)), (76, some (impl_areValues.entry k)), (77, some (impl_awarded.entry k))]
abbrev R := Res [.own (.sl 2 (.int .i64)), .own (.int .i64)] × Outs [.ro (.sl 34 (.pair (.int .i64) (.pair (.sl 2 (.int .i64)) .unit))), .ro (.sl 2 (.int .i64)), .ro (.sl 2 (.int .i64)), .ro (.int .i64)]
def env (k : Nat) : Env := ⟨Try.prog, 68, AM.look none (tbl k), AM.look none [(7, some ⟨[(0, .asis), (1, .asis), (2, .asis), (3, .asis), (10, .asis), (23, .asis), (24, .asis), (25, .asis)], [(0, .asis), (1, .asis), (2, .asis), (3, .asis), (8, .asis), (9, .asis), (10, .asis)]⟩)]⟩
def sh7 : Shape := ⟨[(0, .val (.sl 34 (.pair (.int .i64) (.pair (.sl 2 (.int .i64)) .unit)))), (1, .val (.sl 2 (.int .i64))), (2, .val (.sl 2 (.int .i64))), (3, .val (.int .i64)), (10, .val (.int .i64)), (23, .val (.sl 34 (.pair (.int .i64) (.pair (.sl 2 (.int .i64)) .unit)))), (24, .val (.int .i64)), (25, .val (.int .i64))], [], 0, []⟩
def osh7kx1 : Shape := ⟨[(0, .val (.sl 34 (.pair (.int .i64) (.pair (.sl 2 (.int .i64)) .unit)))), (1, .val (.sl 2 (.int .i64))), (2, .val (.sl 2 (.int .i64))), (3, .val (.int .i64)), (8, .undef), (9, .undef), (10, .val (.int .i64))], [], 0, []⟩
def osh7kr : Shape := ⟨[(0, .val (.sl 34 (.pair (.int .i64) (.pair (.sl 2 (.int .i64)) .unit)))), (1, .val (.sl 2 (.int .i64))), (2, .val (.sl 2 (.int .i64))), (3, .val (.int .i64)), (8, .nils), (9, .val (.int .i64)), (10, .val (.int .i64))], [], 0, []⟩
def un7 : (List (Int × ((List Int) × Unit))) × (List Int) × (List Int) × Int × Int × (List (Int × ((List Int) × Unit))) × Int × Int → sh7.V := fun (x0, x1, x2, x3, x10, x23, x24, x25) => ((x0, (x1, (x2, (x3, (x10, (x23, (x24, (x25, ())))))))), ())
def fl7 : sh7.V → (List (Int × ((List Int) × Unit))) × (List Int) × (List Int) × Int × Int × (List (Int × ((List Int) × Unit))) × Int × Int := fun ((x0, (x1, (x2, (x3, (x10, (x23, (x24, (x25, _)))))))), _) => (x0, x1, x2, x3, x10, x23, x24, x25)
def L (k : Nat) (q : Nat) (s : St) (K : AExit → St → Option R) : Option R := bif Nat.beq q 7 then (match sh7.dec s with | some v => l7 (R := R) k k (fl7 v) (fun (x0, x1, x2, x3, x10) => K (.exit 1) (osh7kx1.enc ((x0, (x1, (x2, (x3, ((), ((), (x10, ()))))))), ()))) (fun (x0, x1, x2, x3, x9, x10) => K .ret (osh7kr.enc ((x0, (x1, (x2, (x3, ((), (x9, (x10, ()))))))), ()))) | none => none) else (none)
def J (k : Nat) : Inl R := noInl
theorem step7 (k n : Nat) (K : AExit → St → Option R) : ∀ v, aloop (aexec (env k) (J k) (L k) ((findLoop 7 (codeOf Try.f38)).getD .skip)) (normSt [(0, .asis), (1, .asis), (2, .asis), (3, .asis), (10, .asis), (23, .asis), (24, .asis), (25, .asis)]) (normSt [(0, .asis), (1, .asis), (2, .asis), (3, .asis), (8, .asis), (9, .asis), (10, .asis)]) K (n + 1) (sh7.enc (un7 v)) = s7 (R := R) k (fun w => aloop (aexec (env k) (J k) (L k) ((findLoop 7 (codeOf Try.f38)).getD .skip)) (normSt [(0, .asis), (1, .asis), (2, .asis), (3, .asis), (10, .asis), (23, .asis), (24, .asis), (25, .asis)]) (normSt [(0, .asis), (1, .asis), (2, .asis), (3, .asis), (8, .asis), (9, .asis), (10, .asis)]) K n (sh7.enc (un7 w))) (fun (x0, x1, x2, x3, x10) => K (.exit 1) (osh7kx1.enc ((x0, (x1, (x2, (x3, ((), ((), (x10, ()))))))), ()))) (fun (x0, x1, x2, x3, x9, x10) => K .ret (osh7kr.enc ((x0, (x1, (x2, (x3, ((), (x9, (x10, ()))))))), ()))) v := by intro v; kernel_rfl
theorem eq (k : Nat) : ∀ a, aexec (env k) (J k) (L k) (codeOf Try.f38) (begSt [.ro (.sl 34 (.pair (.int .i64) (.pair (.sl 2 (.int .i64)) .unit))), .ro (.sl 2 (.int .i64)), .ro (.sl 2 (.int .i64)), .ro (.int .i64)] a) (finK (env k) Try.f38 [.ro (.sl 34 (.pair (.int .i64) (.pair (.sl 2 (.int .i64)) .unit))), .ro (.sl 2 (.int .i64)), .ro (.sl 2 (.int .i64)), .ro (.int .i64)] [.own (.sl 2 (.int .i64)), .own (.int .i64)]) = (entry k).fn a := by intro a; kernel_rfl
theorem run7 (k : Nat) (K : AExit → St → Option R) : ∀ n v, aloop (aexec (env k) (J k) (L k) ((findLoop 7 (codeOf Try.f38)).getD .skip)) (normSt [(0, .asis), (1, .asis), (2, .asis), (3, .asis), (10, .asis), (23, .asis), (24, .asis), (25, .asis)]) (normSt [(0, .asis), (1, .asis), (2, .asis), (3, .asis), (8, .asis), (9, .asis), (10, .asis)]) K n (sh7.enc (un7 v)) = l7 (R := R) k n v (fun (x0, x1, x2, x3, x10) => K (.exit 1) (osh7kx1.enc ((x0, (x1, (x2, (x3, ((), ((), (x10, ()))))))), ()))) (fun (x0, x1, x2, x3, x9, x10) => K .ret (osh7kr.enc ((x0, (x1, (x2, (x3, ((), (x9, (x10, ()))))))), ()))) := loop_eq (fun n v => aloop (aexec (env k) (J k) (L k) ((findLoop 7 (codeOf Try.f38)).getD .skip)) (normSt [(0, .asis), (1, .asis), (2, .asis), (3, .asis), (10, .asis), (23, .asis), (24, .asis), (25, .asis)]) (normSt [(0, .asis), (1, .asis), (2, .asis), (3, .asis), (8, .asis), (9, .asis), (10, .asis)]) K n (sh7.enc (un7 v))) (fun n v => l7 (R := R) k n v (fun (x0, x1, x2, x3, x10) => K (.exit 1) (osh7kx1.enc ((x0, (x1, (x2, (x3, ((), ((), (x10, ()))))))), ()))) (fun (x0, x1, x2, x3, x9, x10) => K .ret (osh7kr.enc ((x0, (x1, (x2, (x3, ((), (x9, (x10, ()))))))), ())))) (fun X v => s7 (R := R) k X (fun (x0, x1, x2, x3, x10) => K (.exit 1) (osh7kx1.enc ((x0, (x1, (x2, (x3, ((), ((), (x10, ()))))))), ()))) (fun (x0, x1, x2, x3, x9, x10) => K .ret (osh7kr.enc ((x0, (x1, (x2, (x3, ((), (x9, (x10, ()))))))), ()))) v) (fun _ => rfl) (fun n v => step7 k n K v) (fun n v => rfl)
theorem loops (k : Nat) : LoopsOk (env k) (J k) (L k) (codeOf Try.f38) := by
  intro c an hc han s K r h
  unfold L at h
  by_cases q7 : firstRegion c = 7
  · have h1 := key_eq q7 h
    rw [q7] at hc han
    have e2 : an = ⟨[(0, .asis), (1, .asis), (2, .asis), (3, .asis), (10, .asis), (23, .asis), (24, .asis), (25, .asis)], [(0, .asis), (1, .asis), (2, .asis), (3, .asis), (8, .asis), (9, .asis), (10, .asis)]⟩ := (Option.some.inj (show some _ = some an from han)).symm
    have e1 : c = (findLoop 7 (codeOf Try.f38)).getD .skip := by rw [hc]; rfl
    cases hd : sh7.dec s with
    | none => rw [hd] at h1; cases h1
    | some v =>
      rw [hd] at h1
      refine ⟨k, ?_⟩
      rw [e1, e2, Shape.dec_enc _ _ _ hd]
      exact (run7 k K k (fl7 v)).trans h1
  have h := not_key q7 h
  cases h
theorem fit (k : Nat) : codeFit (env k) (codeOf Try.f38) = true := by kernel_rfl
theorem lps : (loopsIn (codeOf Try.f38)).map (fun d => findLoop (firstRegion d) (codeOf Try.f38)) = (loopsIn (codeOf Try.f38)).map some := by kernel_rfl
theorem hf : Try.prog.funcs[38]? = some Try.f38 := by kernel_rfl
theorem hb : Try.f38.body = some (codeOf Try.f38) := by kernel_rfl
theorem hn : (Try.f38.name == "runtime.NumGoroutine") = false := by kernel_rfl
theorem hJ (k : Nat) : ∀ C : Ctx, C.P = Try.prog → ∀ r, InlOk C (J k) r := fun C hC r => noInl_ok
theorem sound (k : Nat) : Sound Try.prog 38 (entry k) := func_sound (E := env k) (by kernel_rfl) (by kernel_rfl) (by kernel_rfl) (by kernel_rfl) (tbl_cons (impl_within.sound k) (tbl_cons (impl_areWinners.sound k) (tbl_cons (impl_areValues.sound k) (tbl_cons (impl_awarded.sound k) tbl_nil)))) hf hb hn (fit k) (loops_all lps) (hJ k) (loops k) (eq k)
end impl_AwardPots

namespace impl_AwardPot
def entry (k : Nat) : Entry := ⟨[.ro (.pair (.int .i64) (.pair (.sl 2 (.int .i64)) .unit)), .ro (.sl 2 (.int .i64)), .ro (.sl 2 (.int .i64)), .ro (.int .i64)], [.own (.sl 2 (.int .i64)), .own (.int .i64)], fun (a0, (a1, (a2, (a3, _)))) => f k a0 a1 a2 a3⟩
def tbl (k : Nat) : List (Nat × Option Entry) := [(38, some (impl_AwardPots.entry k))]
abbrev R := Res [.own (.sl 2 (.int .i64)), .own (.int .i64)] × Outs [.ro (.pair (.int .i64) (.pair (.sl 2 (.int .i64)) .unit)), .ro (.sl 2 (.int .i64)), .ro (.sl 2 (.int .i64)), .ro (.int .i64)]
def env (k : Nat) : Env := ⟨Try.prog, 18, AM.look none (tbl k), AM.look none []⟩
def L (k : Nat) (q : Nat) (s : St) (K : AExit → St → Option R) : Option R := none
def J (k : Nat) : Inl R := noInl
theorem eq (k : Nat) : ∀ a, aexec (env k) (J k) (L k) (codeOf Try.f25) (begSt [.ro (.pair (.int .i64) (.pair (.sl 2 (.int .i64)) .unit)), .ro (.sl 2 (.int .i64)), .ro (.sl 2 (.int .i64)), .ro (.int .i64)] a) (finK (env k) Try.f25 [.ro (.pair (.int .i64) (.pair (.sl 2 (.int .i64)) .unit)), .ro (.sl 2 (.int .i64)), .ro (.sl 2 (.int .i64)), .ro (.int .i64)] [.own (.sl 2 (.int .i64)), .own (.int .i64)]) = (entry k).fn a := by intro a; kernel_rfl
theorem loops (k : Nat) : LoopsOk (env k) (J k) (L k) (codeOf Try.f25) := by
  intro c an hc han s K r h
  unfold L at h
  cases h
theorem fit (k : Nat) : codeFit (env k) (codeOf Try.f25) = true := by kernel_rfl
theorem lps : (loopsIn (codeOf Try.f25)).map (fun d => findLoop (firstRegion d) (codeOf Try.f25)) = (loopsIn (codeOf Try.f25)).map some := by kernel_rfl
theorem hf : Try.prog.funcs[25]? = some Try.f25 := by kernel_rfl
theorem hb : Try.f25.body = some (codeOf Try.f25) := by kernel_rfl
theorem hn : (Try.f25.name == "runtime.NumGoroutine") = false := by kernel_rfl
theorem hJ (k : Nat) : ∀ C : Ctx, C.P = Try.prog → ∀ r, InlOk C (J k) r := fun C hC r => noInl_ok
theorem sound (k : Nat) : Sound Try.prog 25 (entry k) := func_sound (E := env k) (by kernel_rfl) (by kernel_rfl) (by kernel_rfl) (by kernel_rfl) (tbl_cons (impl_AwardPots.sound k) tbl_nil) hf hb hn (fit k) (loops_all lps) (hJ k) (loops k) (eq k)
end impl_AwardPot

namespace laws_big
def entry (k : Nat) : Entry := ⟨[.ro (.sl 5 (.int .u8))], [.own .bool], fun (a0, _) => f k a0⟩
def tbl (k : Nat) : List (Nat × Option Entry) := []
abbrev R := Res [.own .bool] × Outs [.ro (.sl 5 (.int .u8))]
def env (k : Nat) : Env := ⟨Try.prog, 6, AM.look none (tbl k), AM.look none []⟩
def L (k : Nat) (q : Nat) (s : St) (K : AExit → St → Option R) : Option R := none
def J (k : Nat) : Inl R := noInl
theorem eq (k : Nat) : ∀ a, aexec (env k) (J k) (L k) (codeOf Try.f28) (begSt [.ro (.sl 5 (.int .u8))] a) (finK (env k) Try.f28 [.ro (.sl 5 (.int .u8))] [.own .bool]) = (entry k).fn a := by intro a; kernel_rfl
theorem loops (k : Nat) : LoopsOk (env k) (J k) (L k) (codeOf Try.f28) := by
  intro c an hc han s K r h
  unfold L at h
  cases h
theorem fit (k : Nat) : codeFit (env k) (codeOf Try.f28) = true := by kernel_rfl
theorem lps : (loopsIn (codeOf Try.f28)).map (fun d => findLoop (firstRegion d) (codeOf Try.f28)) = (loopsIn (codeOf Try.f28)).map some := by kernel_rfl
theorem hf : Try.prog.funcs[28]? = some Try.f28 := by kernel_rfl
theorem hb : Try.f28.body = some (codeOf Try.f28) := by kernel_rfl
theorem hn : (Try.f28.name == "runtime.NumGoroutine") = false := by kernel_rfl
theorem hJ (k : Nat) : ∀ C : Ctx, C.P = Try.prog → ∀ r, InlOk C (J k) r := fun C hC r => noInl_ok
theorem sound (k : Nat) : Sound Try.prog 28 (entry k) := func_sound (E := env k) (by kernel_rfl) (by kernel_rfl) (by kernel_rfl) (by kernel_rfl) tbl_nil hf hb hn (fit k) (loops_all lps) (hJ k) (loops k) (eq k)
end laws_big

namespace laws_likeInts
def entry (k : Nat) : Entry := ⟨[.ro (.sl 2 (.int .i64)), .ro (.sl 2 (.int .i64))], [.own .bool], fun (a0, (a1, _)) => f k a0 a1⟩
def tbl (k : Nat) : List (Nat × Option Entry) := []
abbrev R := Res [.own .bool] × Outs [.ro (.sl 2 (.int .i64)), .ro (.sl 2 (.int .i64))]
def env (k : Nat) : Env := ⟨Try.prog, 26, AM.look none (tbl k), AM.look none [(4, some ⟨[(0, .asis), (1, .asis), (5, .asis)], [(4, .asis)]⟩)]⟩
def sh4 : Shape := ⟨[(0, .val (.sl 2 (.int .i64))), (1, .val (.sl 2 (.int .i64))), (5, .val (.int .i64))], [], 0, []⟩
def osh4kx0 : Shape := ⟨[(4, .undef)], [], 0, []⟩
def osh4kr : Shape := ⟨[(4, .val .bool)], [], 0, []⟩
def un4 : (List Int) × (List Int) × Int → sh4.V := fun (x0, x1, x5) => ((x0, (x1, (x5, ()))), ())
def fl4 : sh4.V → (List Int) × (List Int) × Int := fun ((x0, (x1, (x5, _))), _) => (x0, x1, x5)
def L (k : Nat) (q : Nat) (s : St) (K : AExit → St → Option R) : Option R := bif Nat.beq q 4 then (match sh4.dec s with | some v => l4 (R := R) k k (fl4 v) (fun (_ : Unit) => K (.exit 0) (osh4kx0.enc (((), ()), ()))) (fun x4 => K .ret (osh4kr.enc ((x4, ()), ()))) | none => none) else (none)
def J (k : Nat) : Inl R := noInl
theorem step4 (k n : Nat) (K : AExit → St → Option R) : ∀ v, aloop (aexec (env k) (J k) (L k) ((findLoop 4 (codeOf Try.f32)).getD .skip)) (normSt [(0, .asis), (1, .asis), (5, .asis)]) (normSt [(4, .asis)]) K (n + 1) (sh4.enc (un4 v)) = s4 (R := R) k (fun w => aloop (aexec (env k) (J k) (L k) ((findLoop 4 (codeOf Try.f32)).getD .skip)) (normSt [(0, .asis), (1, .asis), (5, .asis)]) (normSt [(4, .asis)]) K n (sh4.enc (un4 w))) (fun (_ : Unit) => K (.exit 0) (osh4kx0.enc (((), ()), ()))) (fun x4 => K .ret (osh4kr.enc ((x4, ()), ()))) v := by intro v; kernel_rfl
theorem eq (k : Nat) : ∀ a, aexec (env k) (J k) (L k) (codeOf Try.f32) (begSt [.ro (.sl 2 (.int .i64)), .ro (.sl 2 (.int .i64))] a) (finK (env k) Try.f32 [.ro (.sl 2 (.int .i64)), .ro (.sl 2 (.int .i64))] [.own .bool]) = (entry k).fn a := by intro a; kernel_rfl
theorem run4 (k : Nat) (K : AExit → St → Option R) : ∀ n v, aloop (aexec (env k) (J k) (L k) ((findLoop 4 (codeOf Try.f32)).getD .skip)) (normSt [(0, .asis), (1, .asis), (5, .asis)]) (normSt [(4, .asis)]) K n (sh4.enc (un4 v)) = l4 (R := R) k n v (fun (_ : Unit) => K (.exit 0) (osh4kx0.enc (((), ()), ()))) (fun x4 => K .ret (osh4kr.enc ((x4, ()), ()))) := loop_eq (fun n v => aloop (aexec (env k) (J k) (L k) ((findLoop 4 (codeOf Try.f32)).getD .skip)) (normSt [(0, .asis), (1, .asis), (5, .asis)]) (normSt [(4, .asis)]) K n (sh4.enc (un4 v))) (fun n v => l4 (R := R) k n v (fun (_ : Unit) => K (.exit 0) (osh4kx0.enc (((), ()), ()))) (fun x4 => K .ret (osh4kr.enc ((x4, ()), ())))) (fun X v => s4 (R := R) k X (fun (_ : Unit) => K (.exit 0) (osh4kx0.enc (((), ()), ()))) (fun x4 => K .ret (osh4kr.enc ((x4, ()), ()))) v) (fun _ => rfl) (fun n v => step4 k n K v) (fun n v => rfl)
theorem loops (k : Nat) : LoopsOk (env k) (J k) (L k) (codeOf Try.f32) := by
  intro c an hc han s K r h
  unfold L at h
  by_cases q4 : firstRegion c = 4
  · have h1 := key_eq q4 h
    rw [q4] at hc han
    have e2 : an = ⟨[(0, .asis), (1, .asis), (5, .asis)], [(4, .asis)]⟩ := (Option.some.inj (show some _ = some an from han)).symm
    have e1 : c = (findLoop 4 (codeOf Try.f32)).getD .skip := by rw [hc]; rfl
    cases hd : sh4.dec s with
    | none => rw [hd] at h1; cases h1
    | some v =>
      rw [hd] at h1
      refine ⟨k, ?_⟩
      rw [e1, e2, Shape.dec_enc _ _ _ hd]
      exact (run4 k K k (fl4 v)).trans h1
  have h := not_key q4 h
  cases h
theorem fit (k : Nat) : codeFit (env k) (codeOf Try.f32) = true := by kernel_rfl
theorem lps : (loopsIn (codeOf Try.f32)).map (fun d => findLoop (firstRegion d) (codeOf Try.f32)) = (loopsIn (codeOf Try.f32)).map some := by kernel_rfl
theorem hf : Try.prog.funcs[32]? = some Try.f32 := by kernel_rfl
theorem hb : Try.f32.body = some (codeOf Try.f32) := by kernel_rfl
theorem hn : (Try.f32.name == "runtime.NumGoroutine") = false := by kernel_rfl
theorem hJ (k : Nat) : ∀ C : Ctx, C.P = Try.prog → ∀ r, InlOk C (J k) r := fun C hC r => noInl_ok
theorem sound (k : Nat) : Sound Try.prog 32 (entry k) := func_sound (E := env k) (by kernel_rfl) (by kernel_rfl) (by kernel_rfl) (by kernel_rfl) tbl_nil hf hb hn (fit k) (loops_all lps) (hJ k) (loops k) (eq k)
end laws_likeInts

namespace laws_hasInt
def entry (k : Nat) : Entry := ⟨[.ro (.sl 2 (.int .i64)), .ro (.int .i64)], [.own .bool], fun (a0, (a1, _)) => f k a0 a1⟩
def tbl (k : Nat) : List (Nat × Option Entry) := []
abbrev R := Res [.own .bool] × Outs [.ro (.sl 2 (.int .i64)), .ro (.int .i64)]
def env (k : Nat) : Env := ⟨Try.prog, 18, AM.look none (tbl k), AM.look none [(2, some ⟨[(0, .asis), (1, .asis), (5, .asis)], [(4, .asis)]⟩)]⟩
def sh2 : Shape := ⟨[(0, .val (.sl 2 (.int .i64))), (1, .val (.int .i64)), (5, .val (.int .i64))], [], 0, []⟩
def osh2kx0 : Shape := ⟨[(4, .undef)], [], 0, []⟩
def osh2kr : Shape := ⟨[(4, .val .bool)], [], 0, []⟩
def un2 : (List Int) × Int × Int → sh2.V := fun (x0, x1, x5) => ((x0, (x1, (x5, ()))), ())
def fl2 : sh2.V → (List Int) × Int × Int := fun ((x0, (x1, (x5, _))), _) => (x0, x1, x5)
def L (k : Nat) (q : Nat) (s : St) (K : AExit → St → Option R) : Option R := bif Nat.beq q 2 then (match sh2.dec s with | some v => l2 (R := R) k k (fl2 v) (fun (_ : Unit) => K (.exit 0) (osh2kx0.enc (((), ()), ()))) (fun x4 => K .ret (osh2kr.enc ((x4, ()), ()))) | none => none) else (none)
def J (k : Nat) : Inl R := noInl
theorem step2 (k n : Nat) (K : AExit → St → Option R) : ∀ v, aloop (aexec (env k) (J k) (L k) ((findLoop 2 (codeOf Try.f33)).getD .skip)) (normSt [(0, .asis), (1, .asis), (5, .asis)]) (normSt [(4, .asis)]) K (n + 1) (sh2.enc (un2 v)) = s2 (R := R) k (fun w => aloop (aexec (env k) (J k) (L k) ((findLoop 2 (codeOf Try.f33)).getD .skip)) (normSt [(0, .asis), (1, .asis), (5, .asis)]) (normSt [(4, .asis)]) K n (sh2.enc (un2 w))) (fun (_ : Unit) => K (.exit 0) (osh2kx0.enc (((), ()), ()))) (fun x4 => K .ret (osh2kr.enc ((x4, ()), ()))) v := by intro v; kernel_rfl
theorem eq (k : Nat) : ∀ a, aexec (env k) (J k) (L k) (codeOf Try.f33) (begSt [.ro (.sl 2 (.int .i64)), .ro (.int .i64)] a) (finK (env k) Try.f33 [.ro (.sl 2 (.int .i64)), .ro (.int .i64)] [.own .bool]) = (entry k).fn a := by intro a; kernel_rfl
theorem run2 (k : Nat) (K : AExit → St → Option R) : ∀ n v, aloop (aexec (env k) (J k) (L k) ((findLoop 2 (codeOf Try.f33)).getD .skip)) (normSt [(0, .asis), (1, .asis), (5, .asis)]) (normSt [(4, .asis)]) K n (sh2.enc (un2 v)) = l2 (R := R) k n v (fun (_ : Unit) => K (.exit 0) (osh2kx0.enc (((), ()), ()))) (fun x4 => K .ret (osh2kr.enc ((x4, ()), ()))) := loop_eq (fun n v => aloop (aexec (env k) (J k) (L k) ((findLoop 2 (codeOf Try.f33)).getD .skip)) (normSt [(0, .asis), (1, .asis), (5, .asis)]) (normSt [(4, .asis)]) K n (sh2.enc (un2 v))) (fun n v => l2 (R := R) k n v (fun (_ : Unit) => K (.exit 0) (osh2kx0.enc (((), ()), ()))) (fun x4 => K .ret (osh2kr.enc ((x4, ()), ())))) (fun X v => s2 (R := R) k X (fun (_ : Unit) => K (.exit 0) (osh2kx0.enc (((), ()), ()))) (fun x4 => K .ret (osh2kr.enc ((x4, ()), ()))) v) (fun _ => rfl) (fun n v => step2 k n K v) (fun n v => rfl)
theorem loops (k : Nat) : LoopsOk (env k) (J k) (L k) (codeOf Try.f33) := by
  intro c an hc han s K r h
  unfold L at h
  by_cases q2 : firstRegion c = 2
  · have h1 := key_eq q2 h
    rw [q2] at hc han
    have e2 : an = ⟨[(0, .asis), (1, .asis), (5, .asis)], [(4, .asis)]⟩ := (Option.some.inj (show some _ = some an from han)).symm
    have e1 : c = (findLoop 2 (codeOf Try.f33)).getD .skip := by rw [hc]; rfl
    cases hd : sh2.dec s with
    | none => rw [hd] at h1; cases h1
    | some v =>
      rw [hd] at h1
      refine ⟨k, ?_⟩
      rw [e1, e2, Shape.dec_enc _ _ _ hd]
      exact (run2 k K k (fl2 v)).trans h1
  have h := not_key q2 h
  cases h
theorem fit (k : Nat) : codeFit (env k) (codeOf Try.f33) = true := by kernel_rfl
theorem lps : (loopsIn (codeOf Try.f33)).map (fun d => findLoop (firstRegion d) (codeOf Try.f33)) = (loopsIn (codeOf Try.f33)).map some := by kernel_rfl
theorem hf : Try.prog.funcs[33]? = some Try.f33 := by kernel_rfl
theorem hb : Try.f33.body = some (codeOf Try.f33) := by kernel_rfl
theorem hn : (Try.f33.name == "runtime.NumGoroutine") = false := by kernel_rfl
theorem hJ (k : Nat) : ∀ C : Ctx, C.P = Try.prog → ∀ r, InlOk C (J k) r := fun C hC r => noInl_ok
theorem sound (k : Nat) : Sound Try.prog 33 (entry k) := func_sound (E := env k) (by kernel_rfl) (by kernel_rfl) (by kernel_rfl) (by kernel_rfl) tbl_nil hf hb hn (fit k) (loops_all lps) (hJ k) (loops k) (eq k)
end laws_hasInt

namespace laws_sum
def entry (k : Nat) : Entry := ⟨[.ro (.sl 2 (.int .i64))], [.own (.int .i64)], fun (a0, _) => f k a0⟩
def tbl (k : Nat) : List (Nat × Option Entry) := []
abbrev R := Res [.own (.int .i64)] × Outs [.ro (.sl 2 (.int .i64))]
def env (k : Nat) : Env := ⟨Try.prog, 18, AM.look none (tbl k), AM.look none [(3, some ⟨[(0, .asis), (3, .asis), (4, .asis)], [(3, .asis)]⟩)]⟩
def sh3 : Shape := ⟨[(0, .val (.sl 2 (.int .i64))), (3, .val (.int .i64)), (4, .val (.int .i64))], [], 0, []⟩
def osh3kx0 : Shape := ⟨[(3, .val (.int .i64))], [], 0, []⟩
def un3 : (List Int) × Int × Int → sh3.V := fun (x0, x3, x4) => ((x0, (x3, (x4, ()))), ())
def fl3 : sh3.V → (List Int) × Int × Int := fun ((x0, (x3, (x4, _))), _) => (x0, x3, x4)
def L (k : Nat) (q : Nat) (s : St) (K : AExit → St → Option R) : Option R := bif Nat.beq q 3 then (match sh3.dec s with | some v => l3 (R := R) k k (fl3 v) (fun x3 => K (.exit 0) (osh3kx0.enc ((x3, ()), ()))) | none => none) else (none)
def J (k : Nat) : Inl R := noInl
theorem step3 (k n : Nat) (K : AExit → St → Option R) : ∀ v, aloop (aexec (env k) (J k) (L k) ((findLoop 3 (codeOf Try.f34)).getD .skip)) (normSt [(0, .asis), (3, .asis), (4, .asis)]) (normSt [(3, .asis)]) K (n + 1) (sh3.enc (un3 v)) = s3 (R := R) k (fun w => aloop (aexec (env k) (J k) (L k) ((findLoop 3 (codeOf Try.f34)).getD .skip)) (normSt [(0, .asis), (3, .asis), (4, .asis)]) (normSt [(3, .asis)]) K n (sh3.enc (un3 w))) (fun x3 => K (.exit 0) (osh3kx0.enc ((x3, ()), ()))) v := by intro v; kernel_rfl
theorem eq (k : Nat) : ∀ a, aexec (env k) (J k) (L k) (codeOf Try.f34) (begSt [.ro (.sl 2 (.int .i64))] a) (finK (env k) Try.f34 [.ro (.sl 2 (.int .i64))] [.own (.int .i64)]) = (entry k).fn a := by intro a; kernel_rfl
theorem run3 (k : Nat) (K : AExit → St → Option R) : ∀ n v, aloop (aexec (env k) (J k) (L k) ((findLoop 3 (codeOf Try.f34)).getD .skip)) (normSt [(0, .asis), (3, .asis), (4, .asis)]) (normSt [(3, .asis)]) K n (sh3.enc (un3 v)) = l3 (R := R) k n v (fun x3 => K (.exit 0) (osh3kx0.enc ((x3, ()), ()))) := loop_eq (fun n v => aloop (aexec (env k) (J k) (L k) ((findLoop 3 (codeOf Try.f34)).getD .skip)) (normSt [(0, .asis), (3, .asis), (4, .asis)]) (normSt [(3, .asis)]) K n (sh3.enc (un3 v))) (fun n v => l3 (R := R) k n v (fun x3 => K (.exit 0) (osh3kx0.enc ((x3, ()), ())))) (fun X v => s3 (R := R) k X (fun x3 => K (.exit 0) (osh3kx0.enc ((x3, ()), ()))) v) (fun _ => rfl) (fun n v => step3 k n K v) (fun n v => rfl)
theorem loops (k : Nat) : LoopsOk (env k) (J k) (L k) (codeOf Try.f34) := by
  intro c an hc han s K r h
  unfold L at h
  by_cases q3 : firstRegion c = 3
  · have h1 := key_eq q3 h
    rw [q3] at hc han
    have e2 : an = ⟨[(0, .asis), (3, .asis), (4, .asis)], [(3, .asis)]⟩ := (Option.some.inj (show some _ = some an from han)).symm
    have e1 : c = (findLoop 3 (codeOf Try.f34)).getD .skip := by rw [hc]; rfl
    cases hd : sh3.dec s with
    | none => rw [hd] at h1; cases h1
    | some v =>
      rw [hd] at h1
      refine ⟨k, ?_⟩
      rw [e1, e2, Shape.dec_enc _ _ _ hd]
      exact (run3 k K k (fl3 v)).trans h1
  have h := not_key q3 h
  cases h
theorem fit (k : Nat) : codeFit (env k) (codeOf Try.f34) = true := by kernel_rfl
theorem lps : (loopsIn (codeOf Try.f34)).map (fun d => findLoop (firstRegion d) (codeOf Try.f34)) = (loopsIn (codeOf Try.f34)).map some := by kernel_rfl
theorem hf : Try.prog.funcs[34]? = some Try.f34 := by kernel_rfl
theorem hb : Try.f34.body = some (codeOf Try.f34) := by kernel_rfl
theorem hn : (Try.f34.name == "runtime.NumGoroutine") = false := by kernel_rfl
theorem hJ (k : Nat) : ∀ C : Ctx, C.P = Try.prog → ∀ r, InlOk C (J k) r := fun C hC r => noInl_ok
theorem sound (k : Nat) : Sound Try.prog 34 (entry k) := func_sound (E := env k) (by kernel_rfl) (by kernel_rfl) (by kernel_rfl) (by kernel_rfl) tbl_nil hf hb hn (fit k) (loops_all lps) (hJ k) (loops k) (eq k)
end laws_sum

namespace spec_l13All
def entry (k : Nat) : Entry := ⟨[.ro (.sl 34 (.pair (.int .i64) (.pair (.sl 2 (.int .i64)) .unit))), .ro (.sl 2 (.int .i64)), .ro (.sl 2 (.int .i64)), .ro (.int .i64)], [.own (.sl 2 (.int .i64))], fun (a0, (a1, (a2, (a3, _)))) => f k a0 a1 a2 a3⟩
def tbl (k : Nat) : List (Nat × Option Entry) := [(68, some (spec_l13Award.entry k)), (98, some (spec_l13Add.entry k))]
abbrev R := Res [.own (.sl 2 (.int .i64))] × Outs [.ro (.sl 34 (.pair (.int .i64) (.pair (.sl 2 (.int .i64)) .unit))), .ro (.sl 2 (.int .i64)), .ro (.sl 2 (.int .i64)), .ro (.int .i64)]
def env (k : Nat) : Env := ⟨Try.prog, 31, AM.look none (tbl k), AM.look none [(3, some ⟨[(0, .asis), (1, .asis), (2, .asis), (3, .asis), (9, .asis), (10, .asis)], [(9, .asis)]⟩)]⟩
def sh3 : Shape := ⟨[(0, .val (.sl 34 (.pair (.int .i64) (.pair (.sl 2 (.int .i64)) .unit)))), (1, .val (.sl 2 (.int .i64))), (2, .val (.sl 2 (.int .i64))), (3, .val (.int .i64)), (9, .ref 0), (10, .val (.int .i64))], [(0, .row 2 (.int .i64))], 1, []⟩
def osh3kx0 : Shape := ⟨[(9, .ref 0)], [(0, .row 2 (.int .i64))], 1, []⟩
def un3 : (List (Int × ((List Int) × Unit))) × (List Int) × (List Int) × Int × Int × (List Int) → sh3.V := fun (x0, x1, x2, x3, x10, y0) => ((x0, (x1, (x2, (x3, ((), (x10, ())))))), (y0, ()))
def fl3 : sh3.V → (List (Int × ((List Int) × Unit))) × (List Int) × (List Int) × Int × Int × (List Int) := fun ((x0, (x1, (x2, (x3, (_, (x10, _)))))), (y0, _)) => (x0, x1, x2, x3, x10, y0)
def L (k : Nat) (q : Nat) (s : St) (K : AExit → St → Option R) : Option R := bif Nat.beq q 3 then (match sh3.dec s with | some v => l3 (R := R) k k (fl3 v) (fun y0 => K (.exit 0) (osh3kx0.enc (((), ()), (y0, ())))) | none => none) else (none)
def J (k : Nat) : Inl R := noInl
theorem step3 (k n : Nat) (K : AExit → St → Option R) : ∀ v, aloop (aexec (env k) (J k) (L k) ((findLoop 3 (codeOf Try.f75)).getD .skip)) (normSt [(0, .asis), (1, .asis), (2, .asis), (3, .asis), (9, .asis), (10, .asis)]) (normSt [(9, .asis)]) K (n + 1) (sh3.enc (un3 v)) = s3 (R := R) k (fun w => aloop (aexec (env k) (J k) (L k) ((findLoop 3 (codeOf Try.f75)).getD .skip)) (normSt [(0, .asis), (1, .asis), (2, .asis), (3, .asis), (9, .asis), (10, .asis)]) (normSt [(9, .asis)]) K n (sh3.enc (un3 w))) (fun y0 => K (.exit 0) (osh3kx0.enc (((), ()), (y0, ())))) v := by intro v; kernel_rfl
theorem eq (k : Nat) : ∀ a, aexec (env k) (J k) (L k) (codeOf Try.f75) (begSt [.ro (.sl 34 (.pair (.int .i64) (.pair (.sl 2 (.int .i64)) .unit))), .ro (.sl 2 (.int .i64)), .ro (.sl 2 (.int .i64)), .ro (.int .i64)] a) (finK (env k) Try.f75 [.ro (.sl 34 (.pair (.int .i64) (.pair (.sl 2 (.int .i64)) .unit))), .ro (.sl 2 (.int .i64)), .ro (.sl 2 (.int .i64)), .ro (.int .i64)] [.own (.sl 2 (.int .i64))]) = (entry k).fn a := by intro a; kernel_rfl
theorem run3 (k : Nat) (K : AExit → St → Option R) : ∀ n v, aloop (aexec (env k) (J k) (L k) ((findLoop 3 (codeOf Try.f75)).getD .skip)) (normSt [(0, .asis), (1, .asis), (2, .asis), (3, .asis), (9, .asis), (10, .asis)]) (normSt [(9, .asis)]) K n (sh3.enc (un3 v)) = l3 (R := R) k n v (fun y0 => K (.exit 0) (osh3kx0.enc (((), ()), (y0, ())))) := loop_eq (fun n v => aloop (aexec (env k) (J k) (L k) ((findLoop 3 (codeOf Try.f75)).getD .skip)) (normSt [(0, .asis), (1, .asis), (2, .asis), (3, .asis), (9, .asis), (10, .asis)]) (normSt [(9, .asis)]) K n (sh3.enc (un3 v))) (fun n v => l3 (R := R) k n v (fun y0 => K (.exit 0) (osh3kx0.enc (((), ()), (y0, ()))))) (fun X v => s3 (R := R) k X (fun y0 => K (.exit 0) (osh3kx0.enc (((), ()), (y0, ())))) v) (fun _ => rfl) (fun n v => step3 k n K v) (fun n v => rfl)
theorem loops (k : Nat) : LoopsOk (env k) (J k) (L k) (codeOf Try.f75) := by
  intro c an hc han s K r h
  unfold L at h
  by_cases q3 : firstRegion c = 3
  · have h1 := key_eq q3 h
    rw [q3] at hc han
    have e2 : an = ⟨[(0, .asis), (1, .asis), (2, .asis), (3, .asis), (9, .asis), (10, .asis)], [(9, .asis)]⟩ := (Option.some.inj (show some _ = some an from han)).symm
    have e1 : c = (findLoop 3 (codeOf Try.f75)).getD .skip := by rw [hc]; rfl
    cases hd : sh3.dec s with
    | none => rw [hd] at h1; cases h1
    | some v =>
      rw [hd] at h1
      refine ⟨k, ?_⟩
      rw [e1, e2, Shape.dec_enc _ _ _ hd]
      exact (run3 k K k (fl3 v)).trans h1
  have h := not_key q3 h
  cases h
theorem fit (k : Nat) : codeFit (env k) (codeOf Try.f75) = true := by kernel_rfl
theorem lps : (loopsIn (codeOf Try.f75)).map (fun d => findLoop (firstRegion d) (codeOf Try.f75)) = (loopsIn (codeOf Try.f75)).map some := by kernel_rfl
theorem hf : Try.prog.funcs[75]? = some Try.f75 := by kernel_rfl
theorem hb : Try.f75.body = some (codeOf Try.f75) := by kernel_rfl
theorem hn : (Try.f75.name == "runtime.NumGoroutine") = false := by kernel_rfl
theorem hJ (k : Nat) : ∀ C : Ctx, C.P = Try.prog → ∀ r, InlOk C (J k) r := fun C hC r => noInl_ok
theorem sound (k : Nat) : Sound Try.prog 75 (entry k) := func_sound (E := env k) (by kernel_rfl) (by kernel_rfl) (by kernel_rfl) (by kernel_rfl) (tbl_cons (spec_l13Award.sound k) (tbl_cons (spec_l13Add.sound k) tbl_nil)) hf hb hn (fit k) (loops_all lps) (hJ k) (loops k) (eq k)
end spec_l13All

namespace spec_AwardPots
def entry (k : Nat) : Entry := ⟨[.ro (.sl 34 (.pair (.int .i64) (.pair (.sl 2 (.int .i64)) .unit))), .ro (.sl 2 (.int .i64)), .ro (.sl 2 (.int .i64)), .ro (.int .i64)], [.own (.sl 2 (.int .i64)), .own (.int .i64)], fun (a0, (a1, (a2, (a3, _)))) => f k a0 a1 a2 a3⟩
def tbl (k : Nat) : List (Nat × Option Entry) := [(67, some (spec_l13Pots.entry k)), (75, some (spec_l13All.entry k))]
abbrev R := Res [.own (.sl 2 (.int .i64)), .own (.int .i64)] × Outs [.ro (.sl 34 (.pair (.int .i64) (.pair (.sl 2 (.int .i64)) .unit))), .ro (.sl 2 (.int .i64)), .ro (.sl 2 (.int .i64)), .ro (.int .i64)]
def env (k : Nat) : Env := ⟨Try.prog, 27, AM.look none (tbl k), AM.look none []⟩
def L (k : Nat) (q : Nat) (s : St) (K : AExit → St → Option R) : Option R := none
def J (k : Nat) : Inl R := noInl
theorem eq (k : Nat) : ∀ a, aexec (env k) (J k) (L k) (codeOf Try.f36) (begSt [.ro (.sl 34 (.pair (.int .i64) (.pair (.sl 2 (.int .i64)) .unit))), .ro (.sl 2 (.int .i64)), .ro (.sl 2 (.int .i64)), .ro (.int .i64)] a) (finK (env k) Try.f36 [.ro (.sl 34 (.pair (.int .i64) (.pair (.sl 2 (.int .i64)) .unit))), .ro (.sl 2 (.int .i64)), .ro (.sl 2 (.int .i64)), .ro (.int .i64)] [.own (.sl 2 (.int .i64)), .own (.int .i64)]) = (entry k).fn a := by intro a; kernel_rfl
theorem loops (k : Nat) : LoopsOk (env k) (J k) (L k) (codeOf Try.f36) := by
  intro c an hc han s K r h
  unfold L at h
  cases h
theorem fit (k : Nat) : codeFit (env k) (codeOf Try.f36) = true := by kernel_rfl
theorem lps : (loopsIn (codeOf Try.f36)).map (fun d => findLoop (firstRegion d) (codeOf Try.f36)) = (loopsIn (codeOf Try.f36)).map some := by kernel_rfl
theorem hf : Try.prog.funcs[36]? = some Try.f36 := by kernel_rfl
theorem hb : Try.f36.body = some (codeOf Try.f36) := by kernel_rfl
theorem hn : (Try.f36.name == "runtime.NumGoroutine") = false := by kernel_rfl
theorem hJ (k : Nat) : ∀ C : Ctx, C.P = Try.prog → ∀ r, InlOk C (J k) r := fun C hC r => noInl_ok
theorem sound (k : Nat) : Sound Try.prog 36 (entry k) := func_sound (E := env k) (by kernel_rfl) (by kernel_rfl) (by kernel_rfl) (by kernel_rfl) (tbl_cons (spec_l13Pots.sound k) (tbl_cons (spec_l13All.sound k) tbl_nil)) hf hb hn (fit k) (loops_all lps) (hJ k) (loops k) (eq k)
end spec_AwardPots

namespace spec_l01Next
def entry (k : Nat) : Entry := ⟨[.ptr (.pair (.sl 5 (.int .u8)) (.pair (.int .i64) (.pair (.int .i64) .unit))), .ro (.int .i64)], [.own (.int .i64)], fun (a0, (a1, _)) => f k a0 a1⟩
def tbl (k : Nat) : List (Nat × Option Entry) := []
abbrev R := Res [.own (.int .i64)] × Outs [.ptr (.pair (.sl 5 (.int .u8)) (.pair (.int .i64) (.pair (.int .i64) .unit))), .ro (.int .i64)]
def env (k : Nat) : Env := ⟨Try.prog, 78, AM.look none (tbl k), AM.look none []⟩
def L (k : Nat) (q : Nat) (s : St) (K : AExit → St → Option R) : Option R := none
def J (k : Nat) : Inl R := noInl
theorem eq (k : Nat) : ∀ a, aexec (env k) (J k) (L k) (codeOf Try.f72) (begSt [.ptr (.pair (.sl 5 (.int .u8)) (.pair (.int .i64) (.pair (.int .i64) .unit))), .ro (.int .i64)] a) (finK (env k) Try.f72 [.ptr (.pair (.sl 5 (.int .u8)) (.pair (.int .i64) (.pair (.int .i64) .unit))), .ro (.int .i64)] [.own (.int .i64)]) = (entry k).fn a := by intro a; kernel_rfl
theorem loops (k : Nat) : LoopsOk (env k) (J k) (L k) (codeOf Try.f72) := by
  intro c an hc han s K r h
  unfold L at h
  cases h
theorem fit (k : Nat) : codeFit (env k) (codeOf Try.f72) = true := by kernel_rfl
theorem lps : (loopsIn (codeOf Try.f72)).map (fun d => findLoop (firstRegion d) (codeOf Try.f72)) = (loopsIn (codeOf Try.f72)).map some := by kernel_rfl
theorem hf : Try.prog.funcs[72]? = some Try.f72 := by kernel_rfl
theorem hb : Try.f72.body = some (codeOf Try.f72) := by kernel_rfl
theorem hn : (Try.f72.name == "runtime.NumGoroutine") = false := by kernel_rfl
theorem hJ (k : Nat) : ∀ C : Ctx, C.P = Try.prog → ∀ r, InlOk C (J k) r := fun C hC r => noInl_ok
theorem sound (k : Nat) : Sound Try.prog 72 (entry k) := func_sound (E := env k) (by kernel_rfl) (by kernel_rfl) (by kernel_rfl) (by kernel_rfl) tbl_nil hf hb hn (fit k) (loops_all lps) (hJ k) (loops k) (eq k)
end spec_l01Next

namespace spec_l01Pick
def entry (k : Nat) : Entry := ⟨[.ptr (.pair (.sl 5 (.int .u8)) (.pair (.int .i64) (.pair (.int .i64) .unit))), .ro (.sl 2 (.int .i64))], [.own (.int .i64)], fun (a0, (a1, _)) => f k a0 a1⟩
def tbl (k : Nat) : List (Nat × Option Entry) := [(72, some (spec_l01Next.entry k))]
abbrev R := Res [.own (.int .i64)] × Outs [.ptr (.pair (.sl 5 (.int .u8)) (.pair (.int .i64) (.pair (.int .i64) .unit))), .ro (.sl 2 (.int .i64))]
def env (k : Nat) : Env := ⟨Try.prog, 12, AM.look none (tbl k), AM.look none []⟩
def L (k : Nat) (q : Nat) (s : St) (K : AExit → St → Option R) : Option R := none
def J (k : Nat) : Inl R := noInl
theorem eq (k : Nat) : ∀ a, aexec (env k) (J k) (L k) (codeOf Try.f71) (begSt [.ptr (.pair (.sl 5 (.int .u8)) (.pair (.int .i64) (.pair (.int .i64) .unit))), .ro (.sl 2 (.int .i64))] a) (finK (env k) Try.f71 [.ptr (.pair (.sl 5 (.int .u8)) (.pair (.int .i64) (.pair (.int .i64) .unit))), .ro (.sl 2 (.int .i64))] [.own (.int .i64)]) = (entry k).fn a := by intro a; kernel_rfl
theorem loops (k : Nat) : LoopsOk (env k) (J k) (L k) (codeOf Try.f71) := by
  intro c an hc han s K r h
  unfold L at h
  cases h
theorem fit (k : Nat) : codeFit (env k) (codeOf Try.f71) = true := by kernel_rfl
theorem lps : (loopsIn (codeOf Try.f71)).map (fun d => findLoop (firstRegion d) (codeOf Try.f71)) = (loopsIn (codeOf Try.f71)).map some := by kernel_rfl
theorem hf : Try.prog.funcs[71]? = some Try.f71 := by kernel_rfl
theorem hb : Try.f71.body = some (codeOf Try.f71) := by kernel_rfl
theorem hn : (Try.f71.name == "runtime.NumGoroutine") = false := by kernel_rfl
theorem hJ (k : Nat) : ∀ C : Ctx, C.P = Try.prog → ∀ r, InlOk C (J k) r := fun C hC r => noInl_ok
theorem sound (k : Nat) : Sound Try.prog 71 (entry k) := func_sound (E := env k) (by kernel_rfl) (by kernel_rfl) (by kernel_rfl) (by kernel_rfl) (tbl_cons (spec_l01Next.sound k) tbl_nil) hf hb hn (fit k) (loops_all lps) (hJ k) (loops k) (eq k)
end spec_l01Pick

namespace spec_l13DrawSeats
def entry (k : Nat) : Entry := ⟨[.ptr (.pair (.sl 5 (.int .u8)) (.pair (.int .i64) (.pair (.int .i64) .unit)))], [.own (.int .i64)], fun (a0, _) => f k a0⟩
def tbl (k : Nat) : List (Nat × Option Entry) := [(71, some (spec_l01Pick.entry k)), (72, some (spec_l01Next.entry k))]
abbrev R := Res [.own (.int .i64)] × Outs [.ptr (.pair (.sl 5 (.int .u8)) (.pair (.int .i64) (.pair (.int .i64) .unit)))]
def env (k : Nat) : Env := ⟨Try.prog, 12, AM.look none (tbl k), AM.look none []⟩
def L (k : Nat) (q : Nat) (s : St) (K : AExit → St → Option R) : Option R := none
def J (k : Nat) : Inl R := noInl
theorem eq (k : Nat) : ∀ a, aexec (env k) (J k) (L k) (codeOf Try.f70) (begSt [.ptr (.pair (.sl 5 (.int .u8)) (.pair (.int .i64) (.pair (.int .i64) .unit)))] a) (finK (env k) Try.f70 [.ptr (.pair (.sl 5 (.int .u8)) (.pair (.int .i64) (.pair (.int .i64) .unit)))] [.own (.int .i64)]) = (entry k).fn a := by intro a; kernel_rfl
theorem loops (k : Nat) : LoopsOk (env k) (J k) (L k) (codeOf Try.f70) := by
  intro c an hc han s K r h
  unfold L at h
  cases h
theorem fit (k : Nat) : codeFit (env k) (codeOf Try.f70) = true := by kernel_rfl
theorem lps : (loopsIn (codeOf Try.f70)).map (fun d => findLoop (firstRegion d) (codeOf Try.f70)) = (loopsIn (codeOf Try.f70)).map some := by kernel_rfl
theorem hf : Try.prog.funcs[70]? = some Try.f70 := by kernel_rfl
theorem hb : Try.f70.body = some (codeOf Try.f70) := by kernel_rfl
theorem hn : (Try.f70.name == "runtime.NumGoroutine") = false := by kernel_rfl
theorem hJ (k : Nat) : ∀ C : Ctx, C.P = Try.prog → ∀ r, InlOk C (J k) r := fun C hC r => noInl_ok
theorem sound (k : Nat) : Sound Try.prog 70 (entry k) := func_sound (E := env k) (by kernel_rfl) (by kernel_rfl) (by kernel_rfl) (by kernel_rfl) (tbl_cons (spec_l01Pick.sound k) (tbl_cons (spec_l01Next.sound k) tbl_nil)) hf hb hn (fit k) (loops_all lps) (hJ k) (loops k) (eq k)
end spec_l13DrawSeats

namespace spec_l13DrawWinners
def entry (k : Nat) : Entry := ⟨[.ptr (.pair (.sl 5 (.int .u8)) (.pair (.int .i64) (.pair (.int .i64) .unit))), .ro (.int .i64)], [.own (.sl 2 (.int .i64))], fun (a0, (a1, _)) => f k a0 a1⟩
def tbl (k : Nat) : List (Nat × Option Entry) := [(71, some (spec_l01Pick.entry k)), (72, some (spec_l01Next.entry k))]
abbrev R := Res [.own (.sl 2 (.int .i64))] × Outs [.ptr (.pair (.sl 5 (.int .u8)) (.pair (.int .i64) (.pair (.int .i64) .unit))), .ro (.int .i64)]
def env (k : Nat) : Env := ⟨Try.prog, 42, AM.look none (tbl k), AM.look none [(3, some ⟨[(0, .asis), (1, .asis), (5, .asis), (6, .asis)], [(0, .asis), (1, .asis), (5, .asis)]⟩)]⟩
def sh3 : Shape := ⟨[(0, .pc 0 0), (1, .val (.int .i64)), (5, .ref 1), (6, .val (.int .i64))], [(0, .cell [.val (.sl 5 (.int .u8)), .val (.int .i64), .val (.int .i64)]), (1, .row 2 (.int .i64))], 2, [0]⟩
def osh3kx0 : Shape := ⟨[(0, .pc 0 0), (1, .val (.int .i64)), (5, .ref 1)], [(0, .cell [.val (.sl 5 (.int .u8)), .val (.int .i64), .val (.int .i64)]), (1, .row 2 (.int .i64))], 2, [0]⟩
def un3 : Int × Int × (List Int) × Int × Int × (List Int) → sh3.V := fun (x1, x6, z0_0, z0_1, z0_2, y1) => (((), (x1, ((), (x6, ())))), ((z0_0, (z0_1, (z0_2, ()))), (y1, ())))
def fl3 : sh3.V → Int × Int × (List Int) × Int × Int × (List Int) := fun ((_, (x1, (_, (x6, _)))), ((z0_0, (z0_1, (z0_2, _))), (y1, _))) => (x1, x6, z0_0, z0_1, z0_2, y1)
def L (k : Nat) (q : Nat) (s : St) (K : AExit → St → Option R) : Option R := bif Nat.beq q 3 then (match sh3.dec s with | some v => l3 (R := R) k k (fl3 v) (fun (x1, z0_0, z0_1, z0_2, y1) => K (.exit 0) (osh3kx0.enc (((), (x1, ((), ()))), ((z0_0, (z0_1, (z0_2, ()))), (y1, ()))))) | none => none) else (none)
def J (k : Nat) : Inl R := noInl
theorem step3 (k n : Nat) (K : AExit → St → Option R) : ∀ v, aloop (aexec (env k) (J k) (L k) ((findLoop 3 (codeOf Try.f73)).getD .skip)) (normSt [(0, .asis), (1, .asis), (5, .asis), (6, .asis)]) (normSt [(0, .asis), (1, .asis), (5, .asis)]) K (n + 1) (sh3.enc (un3 v)) = s3 (R := R) k (fun w => aloop (aexec (env k) (J k) (L k) ((findLoop 3 (codeOf Try.f73)).getD .skip)) (normSt [(0, .asis), (1, .asis), (5, .asis), (6, .asis)]) (normSt [(0, .asis), (1, .asis), (5, .asis)]) K n (sh3.enc (un3 w))) (fun (x1, z0_0, z0_1, z0_2, y1) => K (.exit 0) (osh3kx0.enc (((), (x1, ((), ()))), ((z0_0, (z0_1, (z0_2, ()))), (y1, ()))))) v := by intro v; kernel_rfl
theorem eq (k : Nat) : ∀ a, aexec (env k) (J k) (L k) (codeOf Try.f73) (begSt [.ptr (.pair (.sl 5 (.int .u8)) (.pair (.int .i64) (.pair (.int .i64) .unit))), .ro (.int .i64)] a) (finK (env k) Try.f73 [.ptr (.pair (.sl 5 (.int .u8)) (.pair (.int .i64) (.pair (.int .i64) .unit))), .ro (.int .i64)] [.own (.sl 2 (.int .i64))]) = (entry k).fn a := by intro a; kernel_rfl
theorem run3 (k : Nat) (K : AExit → St → Option R) : ∀ n v, aloop (aexec (env k) (J k) (L k) ((findLoop 3 (codeOf Try.f73)).getD .skip)) (normSt [(0, .asis), (1, .asis), (5, .asis), (6, .asis)]) (normSt [(0, .asis), (1, .asis), (5, .asis)]) K n (sh3.enc (un3 v)) = l3 (R := R) k n v (fun (x1, z0_0, z0_1, z0_2, y1) => K (.exit 0) (osh3kx0.enc (((), (x1, ((), ()))), ((z0_0, (z0_1, (z0_2, ()))), (y1, ()))))) := loop_eq (fun n v => aloop (aexec (env k) (J k) (L k) ((findLoop 3 (codeOf Try.f73)).getD .skip)) (normSt [(0, .asis), (1, .asis), (5, .asis), (6, .asis)]) (normSt [(0, .asis), (1, .asis), (5, .asis)]) K n (sh3.enc (un3 v))) (fun n v => l3 (R := R) k n v (fun (x1, z0_0, z0_1, z0_2, y1) => K (.exit 0) (osh3kx0.enc (((), (x1, ((), ()))), ((z0_0, (z0_1, (z0_2, ()))), (y1, ())))))) (fun X v => s3 (R := R) k X (fun (x1, z0_0, z0_1, z0_2, y1) => K (.exit 0) (osh3kx0.enc (((), (x1, ((), ()))), ((z0_0, (z0_1, (z0_2, ()))), (y1, ()))))) v) (fun _ => rfl) (fun n v => step3 k n K v) (fun n v => rfl)
theorem loops (k : Nat) : LoopsOk (env k) (J k) (L k) (codeOf Try.f73) := by
  intro c an hc han s K r h
  unfold L at h
  by_cases q3 : firstRegion c = 3
  · have h1 := key_eq q3 h
    rw [q3] at hc han
    have e2 : an = ⟨[(0, .asis), (1, .asis), (5, .asis), (6, .asis)], [(0, .asis), (1, .asis), (5, .asis)]⟩ := (Option.some.inj (show some _ = some an from han)).symm
    have e1 : c = (findLoop 3 (codeOf Try.f73)).getD .skip := by rw [hc]; rfl
    cases hd : sh3.dec s with
    | none => rw [hd] at h1; cases h1
    | some v =>
      rw [hd] at h1
      refine ⟨k, ?_⟩
      rw [e1, e2, Shape.dec_enc _ _ _ hd]
      exact (run3 k K k (fl3 v)).trans h1
  have h := not_key q3 h
  cases h
theorem fit (k : Nat) : codeFit (env k) (codeOf Try.f73) = true := by kernel_rfl
theorem lps : (loopsIn (codeOf Try.f73)).map (fun d => findLoop (firstRegion d) (codeOf Try.f73)) = (loopsIn (codeOf Try.f73)).map some := by kernel_rfl
theorem hf : Try.prog.funcs[73]? = some Try.f73 := by kernel_rfl
theorem hb : Try.f73.body = some (codeOf Try.f73) := by kernel_rfl
theorem hn : (Try.f73.name == "runtime.NumGoroutine") = false := by kernel_rfl
theorem hJ (k : Nat) : ∀ C : Ctx, C.P = Try.prog → ∀ r, InlOk C (J k) r := fun C hC r => noInl_ok
theorem sound (k : Nat) : Sound Try.prog 73 (entry k) := func_sound (E := env k) (by kernel_rfl) (by kernel_rfl) (by kernel_rfl) (by kernel_rfl) (tbl_cons (spec_l01Pick.sound k) (tbl_cons (spec_l01Next.sound k) tbl_nil)) hf hb hn (fit k) (loops_all lps) (hJ k) (loops k) (eq k)
end spec_l13DrawWinners

namespace spec_l13DrawValues
def entry (k : Nat) : Entry := ⟨[.ptr (.pair (.sl 5 (.int .u8)) (.pair (.int .i64) (.pair (.int .i64) .unit))), .ro (.int .i64)], [.own (.sl 2 (.int .i64))], fun (a0, (a1, _)) => f k a0 a1⟩
def tbl (k : Nat) : List (Nat × Option Entry) := [(72, some (spec_l01Next.entry k))]
abbrev R := Res [.own (.sl 2 (.int .i64))] × Outs [.ptr (.pair (.sl 5 (.int .u8)) (.pair (.int .i64) (.pair (.int .i64) .unit))), .ro (.int .i64)]
def env (k : Nat) : Env := ⟨Try.prog, 34, AM.look none (tbl k), AM.look none [(3, some ⟨[(0, .asis), (1, .asis), (5, .asis), (6, .asis)], [(0, .asis), (5, .asis)]⟩)]⟩
def sh3 : Shape := ⟨[(0, .pc 0 0), (1, .val (.int .i64)), (5, .ref 1), (6, .val (.int .i64))], [(0, .cell [.val (.sl 5 (.int .u8)), .val (.int .i64), .val (.int .i64)]), (1, .row 2 (.int .i64))], 2, [0]⟩
def osh3kx0 : Shape := ⟨[(0, .pc 0 0), (5, .ref 1)], [(0, .cell [.val (.sl 5 (.int .u8)), .val (.int .i64), .val (.int .i64)]), (1, .row 2 (.int .i64))], 2, [0]⟩
def un3 : Int × Int × (List Int) × Int × Int × (List Int) → sh3.V := fun (x1, x6, z0_0, z0_1, z0_2, y1) => (((), (x1, ((), (x6, ())))), ((z0_0, (z0_1, (z0_2, ()))), (y1, ())))
def fl3 : sh3.V → Int × Int × (List Int) × Int × Int × (List Int) := fun ((_, (x1, (_, (x6, _)))), ((z0_0, (z0_1, (z0_2, _))), (y1, _))) => (x1, x6, z0_0, z0_1, z0_2, y1)
def L (k : Nat) (q : Nat) (s : St) (K : AExit → St → Option R) : Option R := bif Nat.beq q 3 then (match sh3.dec s with | some v => l3 (R := R) k k (fl3 v) (fun (z0_0, z0_1, z0_2, y1) => K (.exit 0) (osh3kx0.enc (((), ((), ())), ((z0_0, (z0_1, (z0_2, ()))), (y1, ()))))) | none => none) else (none)
def J (k : Nat) : Inl R := noInl
theorem step3 (k n : Nat) (K : AExit → St → Option R) : ∀ v, aloop (aexec (env k) (J k) (L k) ((findLoop 3 (codeOf Try.f74)).getD .skip)) (normSt [(0, .asis), (1, .asis), (5, .asis), (6, .asis)]) (normSt [(0, .asis), (5, .asis)]) K (n + 1) (sh3.enc (un3 v)) = s3 (R := R) k (fun w => aloop (aexec (env k) (J k) (L k) ((findLoop 3 (codeOf Try.f74)).getD .skip)) (normSt [(0, .asis), (1, .asis), (5, .asis), (6, .asis)]) (normSt [(0, .asis), (5, .asis)]) K n (sh3.enc (un3 w))) (fun (z0_0, z0_1, z0_2, y1) => K (.exit 0) (osh3kx0.enc (((), ((), ())), ((z0_0, (z0_1, (z0_2, ()))), (y1, ()))))) v := by intro v; kernel_rfl
theorem eq (k : Nat) : ∀ a, aexec (env k) (J k) (L k) (codeOf Try.f74) (begSt [.ptr (.pair (.sl 5 (.int .u8)) (.pair (.int .i64) (.pair (.int .i64) .unit))), .ro (.int .i64)] a) (finK (env k) Try.f74 [.ptr (.pair (.sl 5 (.int .u8)) (.pair (.int .i64) (.pair (.int .i64) .unit))), .ro (.int .i64)] [.own (.sl 2 (.int .i64))]) = (entry k).fn a := by intro a; kernel_rfl
theorem run3 (k : Nat) (K : AExit → St → Option R) : ∀ n v, aloop (aexec (env k) (J k) (L k) ((findLoop 3 (codeOf Try.f74)).getD .skip)) (normSt [(0, .asis), (1, .asis), (5, .asis), (6, .asis)]) (normSt [(0, .asis), (5, .asis)]) K n (sh3.enc (un3 v)) = l3 (R := R) k n v (fun (z0_0, z0_1, z0_2, y1) => K (.exit 0) (osh3kx0.enc (((), ((), ())), ((z0_0, (z0_1, (z0_2, ()))), (y1, ()))))) := loop_eq (fun n v => aloop (aexec (env k) (J k) (L k) ((findLoop 3 (codeOf Try.f74)).getD .skip)) (normSt [(0, .asis), (1, .asis), (5, .asis), (6, .asis)]) (normSt [(0, .asis), (5, .asis)]) K n (sh3.enc (un3 v))) (fun n v => l3 (R := R) k n v (fun (z0_0, z0_1, z0_2, y1) => K (.exit 0) (osh3kx0.enc (((), ((), ())), ((z0_0, (z0_1, (z0_2, ()))), (y1, ())))))) (fun X v => s3 (R := R) k X (fun (z0_0, z0_1, z0_2, y1) => K (.exit 0) (osh3kx0.enc (((), ((), ())), ((z0_0, (z0_1, (z0_2, ()))), (y1, ()))))) v) (fun _ => rfl) (fun n v => step3 k n K v) (fun n v => rfl)
theorem loops (k : Nat) : LoopsOk (env k) (J k) (L k) (codeOf Try.f74) := by
  intro c an hc han s K r h
  unfold L at h
  by_cases q3 : firstRegion c = 3
  · have h1 := key_eq q3 h
    rw [q3] at hc han
    have e2 : an = ⟨[(0, .asis), (1, .asis), (5, .asis), (6, .asis)], [(0, .asis), (5, .asis)]⟩ := (Option.some.inj (show some _ = some an from han)).symm
    have e1 : c = (findLoop 3 (codeOf Try.f74)).getD .skip := by rw [hc]; rfl
    cases hd : sh3.dec s with
    | none => rw [hd] at h1; cases h1
    | some v =>
      rw [hd] at h1
      refine ⟨k, ?_⟩
      rw [e1, e2, Shape.dec_enc _ _ _ hd]
      exact (run3 k K k (fl3 v)).trans h1
  have h := not_key q3 h
  cases h
theorem fit (k : Nat) : codeFit (env k) (codeOf Try.f74) = true := by kernel_rfl
theorem lps : (loopsIn (codeOf Try.f74)).map (fun d => findLoop (firstRegion d) (codeOf Try.f74)) = (loopsIn (codeOf Try.f74)).map some := by kernel_rfl
theorem hf : Try.prog.funcs[74]? = some Try.f74 := by kernel_rfl
theorem hb : Try.f74.body = some (codeOf Try.f74) := by kernel_rfl
theorem hn : (Try.f74.name == "runtime.NumGoroutine") = false := by kernel_rfl
theorem hJ (k : Nat) : ∀ C : Ctx, C.P = Try.prog → ∀ r, InlOk C (J k) r := fun C hC r => noInl_ok
theorem sound (k : Nat) : Sound Try.prog 74 (entry k) := func_sound (E := env k) (by kernel_rfl) (by kernel_rfl) (by kernel_rfl) (by kernel_rfl) (tbl_cons (spec_l01Next.sound k) tbl_nil) hf hb hn (fit k) (loops_all lps) (hJ k) (loops k) (eq k)
end spec_l13DrawValues

namespace spec_DrawAwardPot
def entry (k : Nat) : Entry := ⟨[.ro (.sl 5 (.int .u8))], [.own (.pair (.int .i64) (.pair (.sl 2 (.int .i64)) .unit)), .own (.sl 2 (.int .i64)), .own (.sl 2 (.int .i64)), .own (.int .i64)], fun (a0, _) => f k a0⟩
def tbl (k : Nat) : List (Nat × Option Entry) := [(70, some (spec_l13DrawSeats.entry k)), (71, some (spec_l01Pick.entry k)), (72, some (spec_l01Next.entry k)), (73, some (spec_l13DrawWinners.entry k)), (74, some (spec_l13DrawValues.entry k))]
abbrev R := Res [.own (.pair (.int .i64) (.pair (.sl 2 (.int .i64)) .unit)), .own (.sl 2 (.int .i64)), .own (.sl 2 (.int .i64)), .own (.int .i64)] × Outs [.ro (.sl 5 (.int .u8))]
def env (k : Nat) : Env := ⟨Try.prog, 36, AM.look none (tbl k), AM.look none []⟩
def L (k : Nat) (q : Nat) (s : St) (K : AExit → St → Option R) : Option R := none
def i1001_env (k : Nat) : Env := ⟨Try.prog, 34, AM.look none (tbl k), AM.look none [(3, some ⟨[(0, .asis), (3, .asis), (4, .asis), (4096, .asis)], [(3, .asis), (4096, .asis)]⟩)]⟩
def shi1001_3 : Shape := ⟨[(0, .val (.sl 5 (.int .u8))), (3, .pc 0 0), (4, .val (.int .i64)), (4096, .pc 1 0)], [(0, .cell [.val (.sl 5 (.int .u8)), .val (.int .i64), .val (.int .i64)]), (1, .cell [.val (.int .i64), .nils])], 2, []⟩
def oshi1001_3kx0 : Shape := ⟨[(3, .pc 0 0), (4096, .pc 1 0)], [(0, .cell [.val (.sl 5 (.int .u8)), .val (.int .i64), .val (.int .i64)]), (1, .cell [.val (.int .i64), .nils])], 2, []⟩
def uni1001_3 : (List Int) × Int × (List Int) × Int × Int × Int → shi1001_3.V := fun (x0, x4, z0_0, z0_1, z0_2, z1_0) => ((x0, ((), (x4, ((), ())))), ((z0_0, (z0_1, (z0_2, ()))), ((z1_0, ((), ())), ())))
def fli1001_3 : shi1001_3.V → (List Int) × Int × (List Int) × Int × Int × Int := fun ((x0, (_, (x4, (_, _)))), ((z0_0, (z0_1, (z0_2, _))), ((z1_0, (_, _)), _))) => (x0, x4, z0_0, z0_1, z0_2, z1_0)
def i1001_L (k : Nat) (q : Nat) (s : St) (K : AExit → St → Option R) : Option R := bif Nat.beq q 3 then (match shi1001_3.dec s with | some v => i1001_l3 (R := R) k k (fli1001_3 v) (fun (z0_0, z0_1, z0_2, z1_0) => K (.exit 0) (oshi1001_3kx0.enc (((), ((), ())), ((z0_0, (z0_1, (z0_2, ()))), ((z1_0, ((), ())), ()))))) | none => none) else (none)
def i1001_J (k : Nat) : Inl R := noInl
def J (k : Nat) : Inl R := (inlCons 1001 69 (inst (i1001_env k) (i1001_J k) (i1001_L k) Try.f69 [2]) noInl)
theorem stepi1001_3 (k n : Nat) (K : AExit → St → Option R) : ∀ v, aloop (aexec (i1001_env k) (i1001_J k) (i1001_L k) ((findLoop 3 (codeOf Try.f69)).getD .skip)) (normSt [(0, .asis), (3, .asis), (4, .asis), (4096, .asis)]) (normSt [(3, .asis), (4096, .asis)]) K (n + 1) (shi1001_3.enc (uni1001_3 v)) = i1001_s3 (R := R) k (fun w => aloop (aexec (i1001_env k) (i1001_J k) (i1001_L k) ((findLoop 3 (codeOf Try.f69)).getD .skip)) (normSt [(0, .asis), (3, .asis), (4, .asis), (4096, .asis)]) (normSt [(3, .asis), (4096, .asis)]) K n (shi1001_3.enc (uni1001_3 w))) (fun (z0_0, z0_1, z0_2, z1_0) => K (.exit 0) (oshi1001_3kx0.enc (((), ((), ())), ((z0_0, (z0_1, (z0_2, ()))), ((z1_0, ((), ())), ()))))) v := by intro v; kernel_rfl
theorem eq (k : Nat) : ∀ a, aexec (env k) (J k) (L k) (codeOf Try.f41) (begSt [.ro (.sl 5 (.int .u8))] a) (finK (env k) Try.f41 [.ro (.sl 5 (.int .u8))] [.own (.pair (.int .i64) (.pair (.sl 2 (.int .i64)) .unit)), .own (.sl 2 (.int .i64)), .own (.sl 2 (.int .i64)), .own (.int .i64)]) = (entry k).fn a := by intro a; kernel_rfl
theorem loops (k : Nat) : LoopsOk (env k) (J k) (L k) (codeOf Try.f41) := by
  intro c an hc han s K r h
  unfold L at h
  cases h
theorem runi1001_3 (k : Nat) (K : AExit → St → Option R) : ∀ n v, aloop (aexec (i1001_env k) (i1001_J k) (i1001_L k) ((findLoop 3 (codeOf Try.f69)).getD .skip)) (normSt [(0, .asis), (3, .asis), (4, .asis), (4096, .asis)]) (normSt [(3, .asis), (4096, .asis)]) K n (shi1001_3.enc (uni1001_3 v)) = i1001_l3 (R := R) k n v (fun (z0_0, z0_1, z0_2, z1_0) => K (.exit 0) (oshi1001_3kx0.enc (((), ((), ())), ((z0_0, (z0_1, (z0_2, ()))), ((z1_0, ((), ())), ()))))) := loop_eq (fun n v => aloop (aexec (i1001_env k) (i1001_J k) (i1001_L k) ((findLoop 3 (codeOf Try.f69)).getD .skip)) (normSt [(0, .asis), (3, .asis), (4, .asis), (4096, .asis)]) (normSt [(3, .asis), (4096, .asis)]) K n (shi1001_3.enc (uni1001_3 v))) (fun n v => i1001_l3 (R := R) k n v (fun (z0_0, z0_1, z0_2, z1_0) => K (.exit 0) (oshi1001_3kx0.enc (((), ((), ())), ((z0_0, (z0_1, (z0_2, ()))), ((z1_0, ((), ())), ())))))) (fun X v => i1001_s3 (R := R) k X (fun (z0_0, z0_1, z0_2, z1_0) => K (.exit 0) (oshi1001_3kx0.enc (((), ((), ())), ((z0_0, (z0_1, (z0_2, ()))), ((z1_0, ((), ())), ()))))) v) (fun _ => rfl) (fun n v => stepi1001_3 k n K v) (fun n v => rfl)
theorem i1001_loops (k : Nat) : LoopsOk (i1001_env k) (i1001_J k) (i1001_L k) (codeOf Try.f69) := by
  intro c an hc han s K r h
  unfold i1001_L at h
  by_cases q3 : firstRegion c = 3
  · have h1 := key_eq q3 h
    rw [q3] at hc han
    have e2 : an = ⟨[(0, .asis), (3, .asis), (4, .asis), (4096, .asis)], [(3, .asis), (4096, .asis)]⟩ := (Option.some.inj (show some _ = some an from han)).symm
    have e1 : c = (findLoop 3 (codeOf Try.f69)).getD .skip := by rw [hc]; rfl
    cases hd : shi1001_3.dec s with
    | none => rw [hd] at h1; cases h1
    | some v =>
      rw [hd] at h1
      refine ⟨k, ?_⟩
      rw [e1, e2, Shape.dec_enc _ _ _ hd]
      exact (runi1001_3 k K k (fli1001_3 v)).trans h1
  have h := not_key q3 h
  cases h
theorem i1001_fit (k : Nat) : codeFit (i1001_env k) (codeOf Try.f69) = true := by kernel_rfl
theorem i1001_lps : (loopsIn (codeOf Try.f69)).map (fun d => findLoop (firstRegion d) (codeOf Try.f69)) = (loopsIn (codeOf Try.f69)).map some := by kernel_rfl
theorem i1001_hf : Try.prog.funcs[69]? = some Try.f69 := by kernel_rfl
theorem i1001_hb : Try.f69.body = some (codeOf Try.f69) := by kernel_rfl
theorem i1001_hn : (Try.f69.name == "runtime.NumGoroutine") = false := by kernel_rfl
theorem i1001_hJ (k : Nat) : ∀ C : Ctx, C.P = Try.prog → ∀ r, InlOk C (i1001_J k) r := fun C hC r => noInl_ok
theorem i1001_one (k : Nat) (C : Ctx) (hC : C.P = Try.prog) (r : R) : OneOk C 69 (inst (i1001_env k) (i1001_J k) (i1001_L k) Try.f69 [2]) r := inst_ok hC (by kernel_rfl) (by kernel_rfl) (by kernel_rfl) (by kernel_rfl) (tbl_cons (spec_l13DrawSeats.sound k) (tbl_cons (spec_l01Pick.sound k) (tbl_cons (spec_l01Next.sound k) (tbl_cons (spec_l13DrawWinners.sound k) (tbl_cons (spec_l13DrawValues.sound k) tbl_nil))))) i1001_hf i1001_hb i1001_hn (i1001_fit k) (loops_all i1001_lps) (fun C hC => i1001_hJ k C hC r) (i1001_loops k)
theorem fit (k : Nat) : codeFit (env k) (codeOf Try.f41) = true := by kernel_rfl
theorem lps : (loopsIn (codeOf Try.f41)).map (fun d => findLoop (firstRegion d) (codeOf Try.f41)) = (loopsIn (codeOf Try.f41)).map some := by kernel_rfl
theorem hf : Try.prog.funcs[41]? = some Try.f41 := by kernel_rfl
theorem hb : Try.f41.body = some (codeOf Try.f41) := by kernel_rfl
theorem hn : (Try.f41.name == "runtime.NumGoroutine") = false := by kernel_rfl
theorem hJ (k : Nat) : ∀ C : Ctx, C.P = Try.prog → ∀ r, InlOk C (J k) r := fun C hC r => (inlCons_ok (i1001_one k C hC r) noInl_ok)
theorem sound (k : Nat) : Sound Try.prog 41 (entry k) := func_sound (E := env k) (by kernel_rfl) (by kernel_rfl) (by kernel_rfl) (by kernel_rfl) (tbl_cons (spec_l13DrawSeats.sound k) (tbl_cons (spec_l01Pick.sound k) (tbl_cons (spec_l01Next.sound k) (tbl_cons (spec_l13DrawWinners.sound k) (tbl_cons (spec_l13DrawValues.sound k) tbl_nil))))) hf hb hn (fit k) (loops_all lps) (hJ k) (loops k) (eq k)
end spec_DrawAwardPot

namespace spec_DrawAwardPots
def entry (k : Nat) : Entry := ⟨[.ro (.sl 5 (.int .u8))], [.own (.sl 34 (.pair (.int .i64) (.pair (.sl 2 (.int .i64)) .unit))), .own (.sl 2 (.int .i64)), .own (.sl 2 (.int .i64)), .own (.int .i64)], fun (a0, _) => f k a0⟩
def tbl (k : Nat) : List (Nat × Option Entry) := [(70, some (spec_l13DrawSeats.entry k)), (72, some (spec_l01Next.entry k)), (73, some (spec_l13DrawWinners.entry k)), (74, some (spec_l13DrawValues.entry k))]
abbrev R := Res [.own (.sl 34 (.pair (.int .i64) (.pair (.sl 2 (.int .i64)) .unit))), .own (.sl 2 (.int .i64)), .own (.sl 2 (.int .i64)), .own (.int .i64)] × Outs [.ro (.sl 5 (.int .u8))]
def env (k : Nat) : Env := ⟨Try.prog, 59, AM.look none (tbl k), AM.look none [(5, some ⟨[(6, .asis), (7, .asis), (8, .asis), (9, .asis)], [(6, .asis), (7, .asis), (8, .asis)]⟩), (9, some ⟨[(6, .asis), (7, .asis), (8, .asis)], [(6, .asis), (7, .asis), (8, .asis)]⟩)]⟩
def sh5 : Shape := ⟨[(6, .pc 0 0), (7, .val (.int .i64)), (8, .ref 1), (9, .val (.int .i64))], [(0, .cell [.val (.sl 5 (.int .u8)), .val (.int .i64), .val (.int .i64)]), (1, .row 34 (.pair (.int .i64) (.pair (.sl 2 (.int .i64)) .unit)))], 2, []⟩
def osh5kx0 : Shape := ⟨[(6, .pc 0 0), (7, .val (.int .i64)), (8, .ref 1)], [(0, .cell [.val (.sl 5 (.int .u8)), .val (.int .i64), .val (.int .i64)]), (1, .row 34 (.pair (.int .i64) (.pair (.sl 2 (.int .i64)) .unit)))], 2, []⟩
def un5 : Int × Int × (List Int) × Int × Int × (List (Int × ((List Int) × Unit))) → sh5.V := fun (x7, x9, z0_0, z0_1, z0_2, y1) => (((), (x7, ((), (x9, ())))), ((z0_0, (z0_1, (z0_2, ()))), (y1, ())))
def fl5 : sh5.V → Int × Int × (List Int) × Int × Int × (List (Int × ((List Int) × Unit))) := fun ((_, (x7, (_, (x9, _)))), ((z0_0, (z0_1, (z0_2, _))), (y1, _))) => (x7, x9, z0_0, z0_1, z0_2, y1)
def sh9 : Shape := ⟨[(6, .pc 0 0), (7, .val (.int .i64)), (8, .ref 1)], [(0, .cell [.val (.sl 5 (.int .u8)), .val (.int .i64), .val (.int .i64)]), (1, .row 34 (.pair (.int .i64) (.pair (.sl 2 (.int .i64)) .unit)))], 2, []⟩
def osh9kx2 : Shape := ⟨[(6, .pc 0 0), (7, .val (.int .i64)), (8, .ref 1)], [(0, .cell [.val (.sl 5 (.int .u8)), .val (.int .i64), .val (.int .i64)]), (1, .row 34 (.pair (.int .i64) (.pair (.sl 2 (.int .i64)) .unit)))], 2, []⟩
def un9 : Int × (List Int) × Int × Int × (List (Int × ((List Int) × Unit))) → sh9.V := fun (x7, z0_0, z0_1, z0_2, y1) => (((), (x7, ((), ()))), ((z0_0, (z0_1, (z0_2, ()))), (y1, ())))
def fl9 : sh9.V → Int × (List Int) × Int × Int × (List (Int × ((List Int) × Unit))) := fun ((_, (x7, (_, _))), ((z0_0, (z0_1, (z0_2, _))), (y1, _))) => (x7, z0_0, z0_1, z0_2, y1)
def L (k : Nat) (q : Nat) (s : St) (K : AExit → St → Option R) : Option R := bif Nat.beq q 5 then (match sh5.dec s with | some v => l5 (R := R) k k (fl5 v) (fun (x7, z0_0, z0_1, z0_2, y1) => K (.exit 0) (osh5kx0.enc (((), (x7, ((), ()))), ((z0_0, (z0_1, (z0_2, ()))), (y1, ()))))) | none => none) else (bif Nat.beq q 9 then (match sh9.dec s with | some v => l9 (R := R) k k (fl9 v) (fun (x7, z0_0, z0_1, z0_2, y1) => K (.exit 2) (osh9kx2.enc (((), (x7, ((), ()))), ((z0_0, (z0_1, (z0_2, ()))), (y1, ()))))) | none => none) else (none))
def i1001_env (k : Nat) : Env := ⟨Try.prog, 34, AM.look none (tbl k), AM.look none [(3, some ⟨[(0, .asis), (3, .asis), (4, .asis)], [(3, .asis)]⟩)]⟩
def shi1001_3 : Shape := ⟨[(0, .val (.sl 5 (.int .u8))), (3, .pc 0 0), (4, .val (.int .i64))], [(0, .cell [.val (.sl 5 (.int .u8)), .val (.int .i64), .val (.int .i64)])], 1, []⟩
def oshi1001_3kx0 : Shape := ⟨[(3, .pc 0 0)], [(0, .cell [.val (.sl 5 (.int .u8)), .val (.int .i64), .val (.int .i64)])], 1, []⟩
def uni1001_3 : (List Int) × Int × (List Int) × Int × Int → shi1001_3.V := fun (x0, x4, z0_0, z0_1, z0_2) => ((x0, ((), (x4, ()))), ((z0_0, (z0_1, (z0_2, ()))), ()))
def fli1001_3 : shi1001_3.V → (List Int) × Int × (List Int) × Int × Int := fun ((x0, (_, (x4, _))), ((z0_0, (z0_1, (z0_2, _))), _)) => (x0, x4, z0_0, z0_1, z0_2)
def i1001_L (k : Nat) (q : Nat) (s : St) (K : AExit → St → Option R) : Option R := bif Nat.beq q 3 then (match shi1001_3.dec s with | some v => i1001_l3 (R := R) k k (fli1001_3 v) (fun (z0_0, z0_1, z0_2) => K (.exit 0) (oshi1001_3kx0.enc (((), ()), ((z0_0, (z0_1, (z0_2, ()))), ())))) | none => none) else (none)
def i1001_J (k : Nat) : Inl R := noInl
def J (k : Nat) : Inl R := (inlCons 1001 69 (inst (i1001_env k) (i1001_J k) (i1001_L k) Try.f69 []) noInl)
theorem step5 (k n : Nat) (K : AExit → St → Option R) : ∀ v, aloop (aexec (env k) (J k) (L k) ((findLoop 5 (codeOf Try.f42)).getD .skip)) (normSt [(6, .asis), (7, .asis), (8, .asis), (9, .asis)]) (normSt [(6, .asis), (7, .asis), (8, .asis)]) K (n + 1) (sh5.enc (un5 v)) = s5 (R := R) k (fun w => aloop (aexec (env k) (J k) (L k) ((findLoop 5 (codeOf Try.f42)).getD .skip)) (normSt [(6, .asis), (7, .asis), (8, .asis), (9, .asis)]) (normSt [(6, .asis), (7, .asis), (8, .asis)]) K n (sh5.enc (un5 w))) (fun (x7, z0_0, z0_1, z0_2, y1) => K (.exit 0) (osh5kx0.enc (((), (x7, ((), ()))), ((z0_0, (z0_1, (z0_2, ()))), (y1, ()))))) v := by intro v; kernel_rfl
theorem step9 (k n : Nat) (K : AExit → St → Option R) : ∀ v, aloop (aexec (env k) (J k) (L k) ((findLoop 9 (codeOf Try.f42)).getD .skip)) (normSt [(6, .asis), (7, .asis), (8, .asis)]) (normSt [(6, .asis), (7, .asis), (8, .asis)]) K (n + 1) (sh9.enc (un9 v)) = s9 (R := R) k (fun w => aloop (aexec (env k) (J k) (L k) ((findLoop 9 (codeOf Try.f42)).getD .skip)) (normSt [(6, .asis), (7, .asis), (8, .asis)]) (normSt [(6, .asis), (7, .asis), (8, .asis)]) K n (sh9.enc (un9 w))) (fun (x7, z0_0, z0_1, z0_2, y1) => K (.exit 2) (osh9kx2.enc (((), (x7, ((), ()))), ((z0_0, (z0_1, (z0_2, ()))), (y1, ()))))) v := by intro v; kernel_rfl
theorem stepi1001_3 (k n : Nat) (K : AExit → St → Option R) : ∀ v, aloop (aexec (i1001_env k) (i1001_J k) (i1001_L k) ((findLoop 3 (codeOf Try.f69)).getD .skip)) (normSt [(0, .asis), (3, .asis), (4, .asis)]) (normSt [(3, .asis)]) K (n + 1) (shi1001_3.enc (uni1001_3 v)) = i1001_s3 (R := R) k (fun w => aloop (aexec (i1001_env k) (i1001_J k) (i1001_L k) ((findLoop 3 (codeOf Try.f69)).getD .skip)) (normSt [(0, .asis), (3, .asis), (4, .asis)]) (normSt [(3, .asis)]) K n (shi1001_3.enc (uni1001_3 w))) (fun (z0_0, z0_1, z0_2) => K (.exit 0) (oshi1001_3kx0.enc (((), ()), ((z0_0, (z0_1, (z0_2, ()))), ())))) v := by intro v; kernel_rfl
theorem eq (k : Nat) : ∀ a, aexec (env k) (J k) (L k) (codeOf Try.f42) (begSt [.ro (.sl 5 (.int .u8))] a) (finK (env k) Try.f42 [.ro (.sl 5 (.int .u8))] [.own (.sl 34 (.pair (.int .i64) (.pair (.sl 2 (.int .i64)) .unit))), .own (.sl 2 (.int .i64)), .own (.sl 2 (.int .i64)), .own (.int .i64)]) = (entry k).fn a := by intro a; kernel_rfl
theorem run5 (k : Nat) (K : AExit → St → Option R) : ∀ n v, aloop (aexec (env k) (J k) (L k) ((findLoop 5 (codeOf Try.f42)).getD .skip)) (normSt [(6, .asis), (7, .asis), (8, .asis), (9, .asis)]) (normSt [(6, .asis), (7, .asis), (8, .asis)]) K n (sh5.enc (un5 v)) = l5 (R := R) k n v (fun (x7, z0_0, z0_1, z0_2, y1) => K (.exit 0) (osh5kx0.enc (((), (x7, ((), ()))), ((z0_0, (z0_1, (z0_2, ()))), (y1, ()))))) := loop_eq (fun n v => aloop (aexec (env k) (J k) (L k) ((findLoop 5 (codeOf Try.f42)).getD .skip)) (normSt [(6, .asis), (7, .asis), (8, .asis), (9, .asis)]) (normSt [(6, .asis), (7, .asis), (8, .asis)]) K n (sh5.enc (un5 v))) (fun n v => l5 (R := R) k n v (fun (x7, z0_0, z0_1, z0_2, y1) => K (.exit 0) (osh5kx0.enc (((), (x7, ((), ()))), ((z0_0, (z0_1, (z0_2, ()))), (y1, ())))))) (fun X v => s5 (R := R) k X (fun (x7, z0_0, z0_1, z0_2, y1) => K (.exit 0) (osh5kx0.enc (((), (x7, ((), ()))), ((z0_0, (z0_1, (z0_2, ()))), (y1, ()))))) v) (fun _ => rfl) (fun n v => step5 k n K v) (fun n v => rfl)
theorem run9 (k : Nat) (K : AExit → St → Option R) : ∀ n v, aloop (aexec (env k) (J k) (L k) ((findLoop 9 (codeOf Try.f42)).getD .skip)) (normSt [(6, .asis), (7, .asis), (8, .asis)]) (normSt [(6, .asis), (7, .asis), (8, .asis)]) K n (sh9.enc (un9 v)) = l9 (R := R) k n v (fun (x7, z0_0, z0_1, z0_2, y1) => K (.exit 2) (osh9kx2.enc (((), (x7, ((), ()))), ((z0_0, (z0_1, (z0_2, ()))), (y1, ()))))) := loop_eq (fun n v => aloop (aexec (env k) (J k) (L k) ((findLoop 9 (codeOf Try.f42)).getD .skip)) (normSt [(6, .asis), (7, .asis), (8, .asis)]) (normSt [(6, .asis), (7, .asis), (8, .asis)]) K n (sh9.enc (un9 v))) (fun n v => l9 (R := R) k n v (fun (x7, z0_0, z0_1, z0_2, y1) => K (.exit 2) (osh9kx2.enc (((), (x7, ((), ()))), ((z0_0, (z0_1, (z0_2, ()))), (y1, ())))))) (fun X v => s9 (R := R) k X (fun (x7, z0_0, z0_1, z0_2, y1) => K (.exit 2) (osh9kx2.enc (((), (x7, ((), ()))), ((z0_0, (z0_1, (z0_2, ()))), (y1, ()))))) v) (fun _ => rfl) (fun n v => step9 k n K v) (fun n v => rfl)
theorem loops (k : Nat) : LoopsOk (env k) (J k) (L k) (codeOf Try.f42) := by
  intro c an hc han s K r h
  unfold L at h
  by_cases q5 : firstRegion c = 5
  · have h1 := key_eq q5 h
    rw [q5] at hc han
    have e2 : an = ⟨[(6, .asis), (7, .asis), (8, .asis), (9, .asis)], [(6, .asis), (7, .asis), (8, .asis)]⟩ := (Option.some.inj (show some _ = some an from han)).symm
    have e1 : c = (findLoop 5 (codeOf Try.f42)).getD .skip := by rw [hc]; rfl
    cases hd : sh5.dec s with
    | none => rw [hd] at h1; cases h1
    | some v =>
      rw [hd] at h1
      refine ⟨k, ?_⟩
      rw [e1, e2, Shape.dec_enc _ _ _ hd]
      exact (run5 k K k (fl5 v)).trans h1
  have h := not_key q5 h
  by_cases q9 : firstRegion c = 9
  · have h1 := key_eq q9 h
    rw [q9] at hc han
    have e2 : an = ⟨[(6, .asis), (7, .asis), (8, .asis)], [(6, .asis), (7, .asis), (8, .asis)]⟩ := (Option.some.inj (show some _ = some an from han)).symm
    have e1 : c = (findLoop 9 (codeOf Try.f42)).getD .skip := by rw [hc]; rfl
    cases hd : sh9.dec s with
    | none => rw [hd] at h1; cases h1
    | some v =>
      rw [hd] at h1
      refine ⟨k, ?_⟩
      rw [e1, e2, Shape.dec_enc _ _ _ hd]
      exact (run9 k K k (fl9 v)).trans h1
  have h := not_key q9 h
  cases h
theorem runi1001_3 (k : Nat) (K : AExit → St → Option R) : ∀ n v, aloop (aexec (i1001_env k) (i1001_J k) (i1001_L k) ((findLoop 3 (codeOf Try.f69)).getD .skip)) (normSt [(0, .asis), (3, .asis), (4, .asis)]) (normSt [(3, .asis)]) K n (shi1001_3.enc (uni1001_3 v)) = i1001_l3 (R := R) k n v (fun (z0_0, z0_1, z0_2) => K (.exit 0) (oshi1001_3kx0.enc (((), ()), ((z0_0, (z0_1, (z0_2, ()))), ())))) := loop_eq (fun n v => aloop (aexec (i1001_env k) (i1001_J k) (i1001_L k) ((findLoop 3 (codeOf Try.f69)).getD .skip)) (normSt [(0, .asis), (3, .asis), (4, .asis)]) (normSt [(3, .asis)]) K n (shi1001_3.enc (uni1001_3 v))) (fun n v => i1001_l3 (R := R) k n v (fun (z0_0, z0_1, z0_2) => K (.exit 0) (oshi1001_3kx0.enc (((), ()), ((z0_0, (z0_1, (z0_2, ()))), ()))))) (fun X v => i1001_s3 (R := R) k X (fun (z0_0, z0_1, z0_2) => K (.exit 0) (oshi1001_3kx0.enc (((), ()), ((z0_0, (z0_1, (z0_2, ()))), ())))) v) (fun _ => rfl) (fun n v => stepi1001_3 k n K v) (fun n v => rfl)
theorem i1001_loops (k : Nat) : LoopsOk (i1001_env k) (i1001_J k) (i1001_L k) (codeOf Try.f69) := by
  intro c an hc han s K r h
  unfold i1001_L at h
  by_cases q3 : firstRegion c = 3
  · have h1 := key_eq q3 h
    rw [q3] at hc han
    have e2 : an = ⟨[(0, .asis), (3, .asis), (4, .asis)], [(3, .asis)]⟩ := (Option.some.inj (show some _ = some an from han)).symm
    have e1 : c = (findLoop 3 (codeOf Try.f69)).getD .skip := by rw [hc]; rfl
    cases hd : shi1001_3.dec s with
    | none => rw [hd] at h1; cases h1
    | some v =>
      rw [hd] at h1
      refine ⟨k, ?_⟩
      rw [e1, e2, Shape.dec_enc _ _ _ hd]
      exact (runi1001_3 k K k (fli1001_3 v)).trans h1
  have h := not_key q3 h
  cases h
theorem i1001_fit (k : Nat) : codeFit (i1001_env k) (codeOf Try.f69) = true := by kernel_rfl
theorem i1001_lps : (loopsIn (codeOf Try.f69)).map (fun d => findLoop (firstRegion d) (codeOf Try.f69)) = (loopsIn (codeOf Try.f69)).map some := by kernel_rfl
theorem i1001_hf : Try.prog.funcs[69]? = some Try.f69 := by kernel_rfl
theorem i1001_hb : Try.f69.body = some (codeOf Try.f69) := by kernel_rfl
theorem i1001_hn : (Try.f69.name == "runtime.NumGoroutine") = false := by kernel_rfl
theorem i1001_hJ (k : Nat) : ∀ C : Ctx, C.P = Try.prog → ∀ r, InlOk C (i1001_J k) r := fun C hC r => noInl_ok
theorem i1001_one (k : Nat) (C : Ctx) (hC : C.P = Try.prog) (r : R) : OneOk C 69 (inst (i1001_env k) (i1001_J k) (i1001_L k) Try.f69 []) r := inst_ok hC (by kernel_rfl) (by kernel_rfl) (by kernel_rfl) (by kernel_rfl) (tbl_cons (spec_l13DrawSeats.sound k) (tbl_cons (spec_l01Next.sound k) (tbl_cons (spec_l13DrawWinners.sound k) (tbl_cons (spec_l13DrawValues.sound k) tbl_nil)))) i1001_hf i1001_hb i1001_hn (i1001_fit k) (loops_all i1001_lps) (fun C hC => i1001_hJ k C hC r) (i1001_loops k)
theorem fit (k : Nat) : codeFit (env k) (codeOf Try.f42) = true := by kernel_rfl
theorem lps : (loopsIn (codeOf Try.f42)).map (fun d => findLoop (firstRegion d) (codeOf Try.f42)) = (loopsIn (codeOf Try.f42)).map some := by kernel_rfl
theorem hf : Try.prog.funcs[42]? = some Try.f42 := by kernel_rfl
theorem hb : Try.f42.body = some (codeOf Try.f42) := by kernel_rfl
theorem hn : (Try.f42.name == "runtime.NumGoroutine") = false := by kernel_rfl
theorem hJ (k : Nat) : ∀ C : Ctx, C.P = Try.prog → ∀ r, InlOk C (J k) r := fun C hC r => (inlCons_ok (i1001_one k C hC r) noInl_ok)
theorem sound (k : Nat) : Sound Try.prog 42 (entry k) := func_sound (E := env k) (by kernel_rfl) (by kernel_rfl) (by kernel_rfl) (by kernel_rfl) (tbl_cons (spec_l13DrawSeats.sound k) (tbl_cons (spec_l01Next.sound k) (tbl_cons (spec_l13DrawWinners.sound k) (tbl_cons (spec_l13DrawValues.sound k) tbl_nil)))) hf hb hn (fit k) (loops_all lps) (hJ k) (loops k) (eq k)
end spec_DrawAwardPots

namespace laws_FnAwards
def entry (k : Nat) : Entry := ⟨[.ro (.sl 5 (.int .u8))], [.own .bool], fun (a0, _) => f k a0⟩
def tbl (k : Nat) : List (Nat × Option Entry) := [(19, some (impl_HighWinners.entry k)), (21, some (impl_LowWinners.entry k)), (23, some (spec_AwardPot.entry k)), (25, some (impl_AwardPot.entry k)), (28, some (laws_big.entry k)), (32, some (laws_likeInts.entry k)), (33, some (laws_hasInt.entry k)), (34, some (laws_sum.entry k)), (36, some (spec_AwardPots.entry k)), (38, some (impl_AwardPots.entry k)), (41, some (spec_DrawAwardPot.entry k)), (42, some (spec_DrawAwardPots.entry k))]
abbrev R := Res [.own .bool] × Outs [.ro (.sl 5 (.int .u8))]
def env (k : Nat) : Env := ⟨Try.prog, 172, AM.look none (tbl k), AM.look none [(14, some ⟨[(3, .asis), (4, .asis), (5, .asis), (7, .asis), (8, .asis), (11, .asis), (15, .asis), (19, .asis), (20, .asis)], [(3, .asis), (4, .asis), (5, .asis), (7, .asis), (8, .asis), (15, .asis), (19, .asis)]⟩), (24, some ⟨[(3, .asis), (7, .asis), (21, .asis), (22, .asis), (23, .asis), (24, .asis), (25, .asis)], [(2, .asis), (3, .asis), (7, .asis)]⟩)]⟩
def sh14 : Shape := ⟨[(3, .pc 1 0), (4, .ref 2), (5, .ref 3), (7, .ref 4), (8, .val (.int .i64)), (11, .ref 5), (15, .ref 6), (19, .val (.int .i64)), (20, .val (.int .i64))], [(0, .row 2 (.int .i64)), (1, .cell [.val (.int .i64), .ref 0]), (2, .row 2 (.int .i64)), (3, .row 2 (.int .i64)), (4, .row 2 (.int .i64)), (5, .row 34 (.pair (.int .i64) (.pair (.sl 2 (.int .i64)) .unit))), (6, .row 2 (.int .i64))], 7, []⟩
def osh14kx0 : Shape := ⟨[(3, .pc 1 0), (4, .ref 2), (5, .ref 3), (7, .ref 4), (8, .val (.int .i64)), (15, .ref 5), (19, .val (.int .i64))], [(0, .row 2 (.int .i64)), (1, .cell [.val (.int .i64), .ref 0]), (2, .row 2 (.int .i64)), (3, .row 2 (.int .i64)), (4, .row 2 (.int .i64)), (5, .row 2 (.int .i64))], 6, []⟩
def un14 : Int × Int × Int × (List Int) × Int × (List Int) × (List Int) × (List Int) × (List (Int × ((List Int) × Unit))) × (List Int) → sh14.V := fun (x8, x19, x20, y0, z1_0, y2, y3, y4, y5, y6) => (((), ((), ((), ((), (x8, ((), ((), (x19, (x20, ()))))))))), (y0, ((z1_0, ((), ())), (y2, (y3, (y4, (y5, (y6, ()))))))))
def fl14 : sh14.V → Int × Int × Int × (List Int) × Int × (List Int) × (List Int) × (List Int) × (List (Int × ((List Int) × Unit))) × (List Int) := fun ((_, (_, (_, (_, (x8, (_, (_, (x19, (x20, _))))))))), (y0, ((z1_0, (_, _)), (y2, (y3, (y4, (y5, (y6, _)))))))) => (x8, x19, x20, y0, z1_0, y2, y3, y4, y5, y6)
def sh24 : Shape := ⟨[(3, .pc 1 0), (7, .ref 2), (21, .ref 3), (22, .val (.int .i64)), (23, .ref 4), (24, .val (.int .i64)), (25, .val (.int .i64))], [(0, .row 2 (.int .i64)), (1, .cell [.val (.int .i64), .ref 0]), (2, .row 2 (.int .i64)), (3, .row 2 (.int .i64)), (4, .row 2 (.int .i64))], 5, []⟩
def osh24kx2 : Shape := ⟨[(2, .undef), (3, .pc 1 0), (7, .ref 2)], [(0, .row 2 (.int .i64)), (1, .cell [.val (.int .i64), .ref 0]), (2, .row 2 (.int .i64))], 3, []⟩
def osh24kr : Shape := ⟨[(2, .val .bool), (3, .pc 1 0), (7, .ref 2)], [(0, .row 2 (.int .i64)), (1, .cell [.val (.int .i64), .ref 0]), (2, .row 2 (.int .i64))], 3, []⟩
def un24 : Int × Int × Int × (List Int) × Int × (List Int) × (List Int) × (List Int) → sh24.V := fun (x22, x24, x25, y0, z1_0, y2, y3, y4) => (((), ((), ((), (x22, ((), (x24, (x25, ()))))))), (y0, ((z1_0, ((), ())), (y2, (y3, (y4, ()))))))
def fl24 : sh24.V → Int × Int × Int × (List Int) × Int × (List Int) × (List Int) × (List Int) := fun ((_, (_, (_, (x22, (_, (x24, (x25, _))))))), (y0, ((z1_0, (_, _)), (y2, (y3, (y4, _)))))) => (x22, x24, x25, y0, z1_0, y2, y3, y4)
def L (k : Nat) (q : Nat) (s : St) (K : AExit → St → Option R) : Option R := bif Nat.beq q 14 then (match sh14.dec s with | some v => l14 (R := R) k k (fl14 v) (fun (x8, x19, y0, z1_0, y2, y3, y4, y5) => K (.exit 0) (osh14kx0.enc (((), ((), ((), ((), (x8, ((), (x19, ()))))))), (y0, ((z1_0, ((), ())), (y2, (y3, (y4, (y5, ()))))))))) | none => none) else (bif Nat.beq q 24 then (match sh24.dec s with | some v => l24 (R := R) k k (fl24 v) (fun (y0, z1_0, y2) => K (.exit 2) (osh24kx2.enc (((), ((), ((), ()))), (y0, ((z1_0, ((), ())), (y2, ())))))) (fun (x2, y0, z1_0, y2) => K .ret (osh24kr.enc ((x2, ((), ((), ()))), (y0, ((z1_0, ((), ())), (y2, ())))))) | none => none) else (none))
def J (k : Nat) : Inl R := noInl
theorem step14 (k n : Nat) (K : AExit → St → Option R) : ∀ v, aloop (aexec (env k) (J k) (L k) ((findLoop 14 (codeOf Try.f9)).getD .skip)) (normSt [(3, .asis), (4, .asis), (5, .asis), (7, .asis), (8, .asis), (11, .asis), (15, .asis), (19, .asis), (20, .asis)]) (normSt [(3, .asis), (4, .asis), (5, .asis), (7, .asis), (8, .asis), (15, .asis), (19, .asis)]) K (n + 1) (sh14.enc (un14 v)) = s14 (R := R) k (fun w => aloop (aexec (env k) (J k) (L k) ((findLoop 14 (codeOf Try.f9)).getD .skip)) (normSt [(3, .asis), (4, .asis), (5, .asis), (7, .asis), (8, .asis), (11, .asis), (15, .asis), (19, .asis), (20, .asis)]) (normSt [(3, .asis), (4, .asis), (5, .asis), (7, .asis), (8, .asis), (15, .asis), (19, .asis)]) K n (sh14.enc (un14 w))) (fun (x8, x19, y0, z1_0, y2, y3, y4, y5) => K (.exit 0) (osh14kx0.enc (((), ((), ((), ((), (x8, ((), (x19, ()))))))), (y0, ((z1_0, ((), ())), (y2, (y3, (y4, (y5, ()))))))))) v := by intro v; kernel_rfl
theorem step24 (k n : Nat) (K : AExit → St → Option R) : ∀ v, aloop (aexec (env k) (J k) (L k) ((findLoop 24 (codeOf Try.f9)).getD .skip)) (normSt [(3, .asis), (7, .asis), (21, .asis), (22, .asis), (23, .asis), (24, .asis), (25, .asis)]) (normSt [(2, .asis), (3, .asis), (7, .asis)]) K (n + 1) (sh24.enc (un24 v)) = s24 (R := R) k (fun w => aloop (aexec (env k) (J k) (L k) ((findLoop 24 (codeOf Try.f9)).getD .skip)) (normSt [(3, .asis), (7, .asis), (21, .asis), (22, .asis), (23, .asis), (24, .asis), (25, .asis)]) (normSt [(2, .asis), (3, .asis), (7, .asis)]) K n (sh24.enc (un24 w))) (fun (y0, z1_0, y2) => K (.exit 2) (osh24kx2.enc (((), ((), ((), ()))), (y0, ((z1_0, ((), ())), (y2, ())))))) (fun (x2, y0, z1_0, y2) => K .ret (osh24kr.enc ((x2, ((), ((), ()))), (y0, ((z1_0, ((), ())), (y2, ())))))) v := by intro v; kernel_rfl
theorem eq (k : Nat) : ∀ a, aexec (env k) (J k) (L k) (codeOf Try.f9) (begSt [.ro (.sl 5 (.int .u8))] a) (finK (env k) Try.f9 [.ro (.sl 5 (.int .u8))] [.own .bool]) = (entry k).fn a := by intro a; kernel_rfl
theorem run14 (k : Nat) (K : AExit → St → Option R) : ∀ n v, aloop (aexec (env k) (J k) (L k) ((findLoop 14 (codeOf Try.f9)).getD .skip)) (normSt [(3, .asis), (4, .asis), (5, .asis), (7, .asis), (8, .asis), (11, .asis), (15, .asis), (19, .asis), (20, .asis)]) (normSt [(3, .asis), (4, .asis), (5, .asis), (7, .asis), (8, .asis), (15, .asis), (19, .asis)]) K n (sh14.enc (un14 v)) = l14 (R := R) k n v (fun (x8, x19, y0, z1_0, y2, y3, y4, y5) => K (.exit 0) (osh14kx0.enc (((), ((), ((), ((), (x8, ((), (x19, ()))))))), (y0, ((z1_0, ((), ())), (y2, (y3, (y4, (y5, ()))))))))) := loop_eq (fun n v => aloop (aexec (env k) (J k) (L k) ((findLoop 14 (codeOf Try.f9)).getD .skip)) (normSt [(3, .asis), (4, .asis), (5, .asis), (7, .asis), (8, .asis), (11, .asis), (15, .asis), (19, .asis), (20, .asis)]) (normSt [(3, .asis), (4, .asis), (5, .asis), (7, .asis), (8, .asis), (15, .asis), (19, .asis)]) K n (sh14.enc (un14 v))) (fun n v => l14 (R := R) k n v (fun (x8, x19, y0, z1_0, y2, y3, y4, y5) => K (.exit 0) (osh14kx0.enc (((), ((), ((), ((), (x8, ((), (x19, ()))))))), (y0, ((z1_0, ((), ())), (y2, (y3, (y4, (y5, ())))))))))) (fun X v => s14 (R := R) k X (fun (x8, x19, y0, z1_0, y2, y3, y4, y5) => K (.exit 0) (osh14kx0.enc (((), ((), ((), ((), (x8, ((), (x19, ()))))))), (y0, ((z1_0, ((), ())), (y2, (y3, (y4, (y5, ()))))))))) v) (fun _ => rfl) (fun n v => step14 k n K v) (fun n v => rfl)
theorem run24 (k : Nat) (K : AExit → St → Option R) : ∀ n v, aloop (aexec (env k) (J k) (L k) ((findLoop 24 (codeOf Try.f9)).getD .skip)) (normSt [(3, .asis), (7, .asis), (21, .asis), (22, .asis), (23, .asis), (24, .asis), (25, .asis)]) (normSt [(2, .asis), (3, .asis), (7, .asis)]) K n (sh24.enc (un24 v)) = l24 (R := R) k n v (fun (y0, z1_0, y2) => K (.exit 2) (osh24kx2.enc (((), ((), ((), ()))), (y0, ((z1_0, ((), ())), (y2, ())))))) (fun (x2, y0, z1_0, y2) => K .ret (osh24kr.enc ((x2, ((), ((), ()))), (y0, ((z1_0, ((), ())), (y2, ())))))) := loop_eq (fun n v => aloop (aexec (env k) (J k) (L k) ((findLoop 24 (codeOf Try.f9)).getD .skip)) (normSt [(3, .asis), (7, .asis), (21, .asis), (22, .asis), (23, .asis), (24, .asis), (25, .asis)]) (normSt [(2, .asis), (3, .asis), (7, .asis)]) K n (sh24.enc (un24 v))) (fun n v => l24 (R := R) k n v (fun (y0, z1_0, y2) => K (.exit 2) (osh24kx2.enc (((), ((), ((), ()))), (y0, ((z1_0, ((), ())), (y2, ())))))) (fun (x2, y0, z1_0, y2) => K .ret (osh24kr.enc ((x2, ((), ((), ()))), (y0, ((z1_0, ((), ())), (y2, ()))))))) (fun X v => s24 (R := R) k X (fun (y0, z1_0, y2) => K (.exit 2) (osh24kx2.enc (((), ((), ((), ()))), (y0, ((z1_0, ((), ())), (y2, ())))))) (fun (x2, y0, z1_0, y2) => K .ret (osh24kr.enc ((x2, ((), ((), ()))), (y0, ((z1_0, ((), ())), (y2, ())))))) v) (fun _ => rfl) (fun n v => step24 k n K v) (fun n v => rfl)
theorem loops (k : Nat) : LoopsOk (env k) (J k) (L k) (codeOf Try.f9) := by
  intro c an hc han s K r h
  unfold L at h
  by_cases q14 : firstRegion c = 14
  · have h1 := key_eq q14 h
    rw [q14] at hc han
    have e2 : an = ⟨[(3, .asis), (4, .asis), (5, .asis), (7, .asis), (8, .asis), (11, .asis), (15, .asis), (19, .asis), (20, .asis)], [(3, .asis), (4, .asis), (5, .asis), (7, .asis), (8, .asis), (15, .asis), (19, .asis)]⟩ := (Option.some.inj (show some _ = some an from han)).symm
    have e1 : c = (findLoop 14 (codeOf Try.f9)).getD .skip := by rw [hc]; rfl
    cases hd : sh14.dec s with
    | none => rw [hd] at h1; cases h1
    | some v =>
      rw [hd] at h1
      refine ⟨k, ?_⟩
      rw [e1, e2, Shape.dec_enc _ _ _ hd]
      exact (run14 k K k (fl14 v)).trans h1
  have h := not_key q14 h
  by_cases q24 : firstRegion c = 24
  · have h1 := key_eq q24 h
    rw [q24] at hc han
    have e2 : an = ⟨[(3, .asis), (7, .asis), (21, .asis), (22, .asis), (23, .asis), (24, .asis), (25, .asis)], [(2, .asis), (3, .asis), (7, .asis)]⟩ := (Option.some.inj (show some _ = some an from han)).symm
    have e1 : c = (findLoop 24 (codeOf Try.f9)).getD .skip := by rw [hc]; rfl
    cases hd : sh24.dec s with
    | none => rw [hd] at h1; cases h1
    | some v =>
      rw [hd] at h1
      refine ⟨k, ?_⟩
      rw [e1, e2, Shape.dec_enc _ _ _ hd]
      exact (run24 k K k (fl24 v)).trans h1
  have h := not_key q24 h
  cases h
theorem fit (k : Nat) : codeFit (env k) (codeOf Try.f9) = true := by kernel_rfl
theorem lps : (loopsIn (codeOf Try.f9)).map (fun d => findLoop (firstRegion d) (codeOf Try.f9)) = (loopsIn (codeOf Try.f9)).map some := by kernel_rfl
theorem hf : Try.prog.funcs[9]? = some Try.f9 := by kernel_rfl
theorem hb : Try.f9.body = some (codeOf Try.f9) := by kernel_rfl
theorem hn : (Try.f9.name == "runtime.NumGoroutine") = false := by kernel_rfl
theorem hJ (k : Nat) : ∀ C : Ctx, C.P = Try.prog → ∀ r, InlOk C (J k) r := fun C hC r => noInl_ok
theorem sound (k : Nat) : Sound Try.prog 9 (entry k) := func_sound (E := env k) (by kernel_rfl) (by kernel_rfl) (by kernel_rfl) (by kernel_rfl) (tbl_cons (impl_HighWinners.sound k) (tbl_cons (impl_LowWinners.sound k) (tbl_cons (spec_AwardPot.sound k) (tbl_cons (impl_AwardPot.sound k) (tbl_cons (laws_big.sound k) (tbl_cons (laws_likeInts.sound k) (tbl_cons (laws_hasInt.sound k) (tbl_cons (laws_sum.sound k) (tbl_cons (spec_AwardPots.sound k) (tbl_cons (impl_AwardPots.sound k) (tbl_cons (spec_DrawAwardPot.sound k) (tbl_cons (spec_DrawAwardPots.sound k) tbl_nil)))))))))))) hf hb hn (fit k) (loops_all lps) (hJ k) (loops k) (eq k)
end laws_FnAwards
end Go.Sh
