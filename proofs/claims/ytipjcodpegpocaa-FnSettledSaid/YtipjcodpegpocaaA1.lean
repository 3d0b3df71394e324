/- The abstract machine of these proofs: its values, its operations, what an operation does to a state, and that it tells the truth of the model; conditions: none. -/
import Derived.Below
import Derived.Carry
import Derived.ChangeArms
import Derived.ChangeOld
import Derived.Deep.Slices
import Derived.OpenShut
import Derived.Orders
import Derived.ProofKit
import Derived.ShutString
import Derived.SizedLaws
import Derived.Test.YtipjcodpegpocaaA0
import Derived.WalkKit
import Derived.WideKeyArgs
set_option linter.unusedVariables false
set_option linter.unusedSimpArgs false
noncomputable section
namespace Go.AM
open Go.RowKit

theorem run_enter {P : Program} {f : FuncId} {fn : Func} {c : Code} (hf : P.funcs[f]? = some fn) (hname : (fn.name == "runtime.NumGoroutine") = false) (hb : fn.body = some c) (args : Array Value) (w : World) :
    (callFunc f args).run P w = .ok (.enter f args) w := by
  have h1 : fn.name ≠ "runtime.NumGoroutine" := by simpa using hname
  simp [callFunc, hf, h1, hb]
theorem nodupB_iff : ∀ {l : List Nat}, nodupB l = true → l.Nodup
  | [], _ => List.nodup_nil
  | n :: l, h => by
    simp only [nodupB, Bool.and_eq_true, Bool.not_eq_true', List.any_eq_false] at h
    refine List.nodup_cons.2 ⟨fun hm => ?_, nodupB_iff h.2⟩
    have := h.1 n hm
    simp at this
theorem meets_iff {l m : List Nat} (h : meets l m = false) : ∀ n ∈ l, n ∉ m := by
  intro n hn hm
  simp only [meets, List.any_eq_false] at h
  have := h n hn
  simp at this
  exact this hm

section
variable {w : World} {S : Nat → Prop} {H : Nat → Loc} {N : Nat → Prop} {E : Env}
variable {C : Ctx} {fr : Nat → AV} {rt : Nat → Option Root} {io : List Nat} {a : Act}

def killed (ns : List Nat) : List (Nat × Option Root) := ns.map fun n => (n, none)
theorem names_killed (ns : List Nat) : namesOf (killed ns) = ns := by simp [namesOf, killed, Function.comp_def]
theorem Inv.killMany (hI : Inv C S H N fr rt io a w) : ∀ ns : List Nat, Inv C S H N fr (updR rt (killed ns)) io a w
  | [] => hI
  | n :: ns => by
    have := (Inv.killMany hI ns).kill n
    rw [← updR_append] at this
    exact this
theorem killed_none {ns : List Nat} {n : Nat} (h : n ∈ ns) : updR rt (killed ns) n = none := by
  induction ns with
  | nil => cases h
  | cons m ns ih =>
    simp only [killed, List.map_cons]
    rw [updR_cons]
    split
    · rfl
    · rename_i hne
      rcases List.mem_cons.1 h with h | h
      · exact absurd h.symm hne
      · exact ih h

def setsAt : List Nat → List RowD → List (Nat × Option Root)
  | n :: ns, d :: ds => (n, some d.root) :: setsAt ns ds
  | _, _ => []
theorem names_setsAt : ∀ (ns : List Nat) (ds : List RowD) (n : Nat), n ∈ namesOf (setsAt ns ds) → n ∈ ns
  | [], _, n, h => by simp [setsAt, namesOf] at h
  | _ :: _, [], n, h => by simp [setsAt, namesOf] at h
  | m :: ns, d :: ds, n, h => by
    simp only [setsAt, namesOf, List.map_cons, List.mem_cons] at h ⊢
    rcases h with h | h
    · exact .inl h
    · exact .inr (names_setsAt ns ds n h)
theorem names_setsAt' : ∀ (ns : List Nat) (ds : List RowD), ds.length = ns.length → namesOf (setsAt ns ds) = ns
  | [], _, _ => by simp [setsAt, namesOf]
  | _ :: _, [], h => by simp at h
  | m :: ns, d :: ds, h => by
    simp only [setsAt, namesOf, List.map_cons]
    congr 1
    exact names_setsAt' ns ds (by simpa using h)

theorem Inv.setRows (hI : Inv C S H N fr rt io a w) : ∀ (ns : List Nat) (ds : List RowD), RowsRel w S ds (ns.map H) → ns.Nodup → (∀ n ∈ ns, N n) →
    (∀ n ∈ ns, ∀ g, (H n).g = some g → ¬ S g ∧ (∀ k r', rt k = some r' → r'.own = true → k ∉ ns → (H k).g ≠ some g) ∧ (C.w0.heap.size ≤ g ∨ g ∈ C.Wrs) ∧ g < w.heap.size) →
    (∀ n ∈ ns, rt n = none) → (∀ n ∈ ns, ∀ m ∈ ns, n ≠ m → ∀ g, (H n).g = some g → (H m).g ≠ some g) →
    Inv C S H N fr (updR rt (setsAt ns ds)) io a w
  | [], ds, _, _, _, _, _, _ => by cases ds <;> exact hI
  | n :: ns, _, .cons d _ ds _ hr hrs, hnd, hN, hfree, hnone, hdis => by
    have hnd' := List.nodup_cons.1 hnd
    have ih := Inv.setRows hI ns ds hrs hnd'.2 (fun m hm => hN m (List.mem_cons_of_mem _ hm)) (by
      intro m hm g hg
      obtain ⟨h1, h2, h3, h4⟩ := hfree m (List.mem_cons_of_mem _ hm) g hg
      refine ⟨h1, ?_, h3, h4⟩
      intro k r' hk ho hkn
      by_cases e : k = n
      · subst e
        rw [hnone k (by simp)] at hk; cases hk
      · exact h2 k r' hk ho (by simp [e, hkn])) (fun m hm => hnone m (List.mem_cons_of_mem _ hm)) (fun m hm k hk => hdis m (List.mem_cons_of_mem _ hm) k (List.mem_cons_of_mem _ hk))
    have e1 : updH H n (H n) = H := by
      funext k; simp only [updH]; split
      · rename_i e; rw [e]
      · rfl
    have e2 : addN N n = N := by
      funext k
      exact propext ⟨fun h => h.elim id (fun e => e ▸ hN n (by simp)), .inl⟩
    have key := ih.setRoot (w' := w) n (H n) d.root (fun _ => rfl) ?_ (fun _ => False) (fun _ h => h.elim) (fun _ _ _ => rfl) (Nat.le_refl _) rfl rfl rfl (by rw [e1, e2]; exact hr.root rfl)
    · rw [e1, e2, ← updR_append] at key
      exact key
    · intro g hg
      obtain ⟨h1, h2, h3, h4⟩ := hfree n (by simp) g hg
      refine ⟨h1, ?_, h3, h4⟩
      intro k r' hk ho hkn
      by_cases hm : k ∈ ns
      · exact hdis n (by simp) k (List.mem_cons_of_mem _ hm) (fun e => hkn e.symm) g hg
      · rw [updR_off (fun h => hm (names_setsAt ns ds k h))] at hk
        exact h2 k r' hk ho (by simp [hkn, hm])

def outsD : (ps : List PTy) → Outs ps → List RowD
  | [], _ => []
  | .ro _ :: ps, o => outsD ps o
  | .io e t :: ps, (x, o) => .row e t x :: outsD ps o
  | .fnc _ :: ps, o => outsD ps o
  | .ptr t :: ps, (x, o) => .cel t x :: outsD ps o
theorem OutRel.rows : ∀ (ps : List PTy) (o : Outs ps) (hs : List Loc), OutRel w S ps o hs → RowsRel w S (outsD ps o) hs
  | [], _, _, h => by subst h; exact .nil
  | .ro _ :: ps, o, hs, h => OutRel.rows ps o hs h
  | .io e t :: ps, (x, o), _, ⟨h, hs, e1, hr, ho⟩ => by subst e1; exact .cons _ _ _ _ hr (OutRel.rows ps o hs ho)
  | .fnc _ :: ps, o, hs, h => OutRel.rows ps o hs h
  | .ptr t :: ps, (x, o), _, ⟨h, hs, e1, hr, ho⟩ => by subst e1; exact .cons _ _ _ _ hr (OutRel.rows ps o hs ho)
theorem OutRel.wider {S' : Nat → Prop} (hS : ∀ b, S b → S' b) : ∀ (ps : List PTy) (o : Outs ps) (hs : List Loc), OutRel w S ps o hs → OutRel w S' ps o hs
  | [], _, _, h => h
  | .ro _ :: ps, o, hs, h => OutRel.wider hS ps o hs h
  | .io e t :: ps, (x, o), _, ⟨h, hs, e1, hr, ho⟩ => ⟨h, hs, e1, hr.wider hS, OutRel.wider hS ps o hs ho⟩
  | .fnc _ :: ps, o, hs, h => OutRel.wider hS ps o hs h
  | .ptr t :: ps, (x, o), _, ⟨h, hs, e1, hr, ho⟩ => ⟨h, hs, e1, hr.wider hS, OutRel.wider hS ps o hs ho⟩
theorem OutRel.flat {S' : Nat → Prop} : ∀ (ps : List PTy) (o : Outs ps) (hs : List Loc), ps.any PTy.deep = false → OutRel w S ps o hs → OutRel w S' ps o hs
  | [], _, _, _, h => h
  | .ro _ :: ps, o, hs, hf, h => OutRel.flat ps o hs (by simpa [PTy.deep] using hf) h
  | .io e t :: ps, (x, o), _, hf, ⟨h, hs, e1, hr, ho⟩ => by
    simp only [List.any_cons, PTy.deep, Bool.or_eq_false_iff, Bool.not_eq_false'] at hf
    exact ⟨h, hs, e1, hr.flat hf.1, OutRel.flat ps o hs hf.2 ho⟩
  | .fnc _ :: ps, o, hs, hf, h => OutRel.flat ps o hs (by simpa [PTy.deep] using hf) h
  | .ptr t :: ps, (x, o), _, hf, ⟨h, hs, e1, hr, ho⟩ => by
    simp only [List.any_cons, PTy.deep, Bool.or_eq_false_iff, Bool.not_eq_false'] at hf
    exact ⟨h, hs, e1, hr.flat hf.1, OutRel.flat ps o hs hf.2 ho⟩
theorem putOuts_eq : ∀ (ps : List PTy) (vs : List AV) (args : Args ps) (o : Outs ps), getArgs rt ps vs = some args → putOuts ps vs o = setsAt (ioNames ps vs) (outsD ps o) ∧ (outsD ps o).length = (ioNames ps vs).length
  | [], [], _, _, _ => ⟨rfl, rfl⟩
  | [], _ :: _, _, _, h => by simp [getArgs] at h
  | .ro t :: ps, [], _, _, h => by simp [getArgs] at h
  | .io _ t :: ps, [], _, _, h => by simp [getArgs] at h
  | .fnc t :: ps, [], _, _, h => by simp [getArgs] at h
  | .ptr t :: ps, [], _, _, h => by simp [getArgs] at h
  | .ro t :: ps, v :: vs, args, o, h => by
    simp only [getArgs] at h
    split at h
    · rename_i x r hx hr
      have ih := putOuts_eq ps vs r o hr
      have e : ioNames (.ro t :: ps) (v :: vs) = ioNames ps vs := by simp [ioNames]
      rw [e]
      exact ih
    · cases h
  | .io e t :: ps, v :: vs, args, (x, o), h => by
    simp only [getArgs] at h
    split at h
    · rename_i n r hr
      have ih := putOuts_eq ps vs r o hr
      simp only [putOuts, ioNames, outsD, setsAt, ih.1, List.length_cons, ih.2]
      exact ⟨rfl, trivial⟩
    · cases h
  | .fnc f :: ps, v :: vs, args, o, h => by
    simp only [getArgs] at h
    split at h
    · rename_i f' r hr
      have ih := putOuts_eq ps vs r o hr
      have e : ioNames (.fnc f :: ps) (.fn f' [] :: vs) = ioNames ps vs := by simp [ioNames]
      rw [e]
      exact ih
    · cases h
  | .ptr t :: ps, v :: vs, args, (x, o), h => by
    simp only [getArgs] at h
    split at h
    · rename_i n o' r hr
      have ih := putOuts_eq ps vs r o hr
      simp only [putOuts, ioNames, outsD, setsAt, ih.1, List.length_cons, ih.2]
      exact ⟨rfl, trivial⟩
    · cases h

theorem nodup_blocks {ns : List Nat} (hnd : ns.Nodup) (hd : ∀ n ∈ ns, ∀ m ∈ ns, n ≠ m → ∀ g, (H n).g = some g → (H m).g ≠ some g) : (blocks (ns.map H)).Nodup := by
  induction ns with
  | nil => exact List.nodup_nil
  | cons n ns ih =>
    have hnd' := List.nodup_cons.1 hnd
    have ih' := ih hnd'.2 (fun m hm k hk => hd m (List.mem_cons_of_mem _ hm) k (List.mem_cons_of_mem _ hk))
    simp only [blocks, List.map_cons, List.filterMap_cons]
    cases hg : (H n).g with
    | none => exact ih'
    | some g =>
      refine List.nodup_cons.2 ⟨?_, ih'⟩
      intro hm
      obtain ⟨h, hh, hgg⟩ := List.mem_filterMap.1 hm
      obtain ⟨m, hm', rfl⟩ := List.mem_map.1 hh
      exact hd n (by simp) m (List.mem_cons_of_mem _ hm') (fun e => hnd'.1 (e ▸ hm')) g hg hgg
theorem mem_blocks {ns : List Nat} {g : Nat} (h : g ∈ blocks (ns.map H)) : ∃ n ∈ ns, (H n).g = some g := by
  obtain ⟨k, hk, hg⟩ := List.mem_filterMap.1 h
  obtain ⟨n, hn, rfl⟩ := List.mem_map.1 hk
  exact ⟨n, hn, hg⟩
theorem blocks_mem {ns : List Nat} {n g : Nat} (hn : n ∈ ns) (hg : (H n).g = some g) : g ∈ blocks (ns.map H) :=
  List.mem_filterMap.2 ⟨H n, List.mem_map.2 ⟨n, hn, rfl⟩, hg⟩

/-- A call of a function value enters the function. -/
theorem call_exec (hI : Inv C S H N fr rt io a w) {o : Oper} {f' : Operand} {as : Array Operand} {f : Nat} {caps : List AV} (hcall : callOf o.op = some (f', as)) (hf : evF fr f' = .fn f caps) :
    ∃ us, VRels w S H N (as.toList.map (evF fr) ++ caps) us ∧ (Entered C.P f → (execOp a.eval o).run C.P w = .ok (.enter f us.toArray) w) := by
  have hvf := hI.evOk f'
  rw [hf] at hvf
  obtain ⟨us2, hu2, hcaps⟩ := hvf.fn_inv
  have has : VRels w S H N (as.toList.map (evF fr)) (as.toList.map a.eval) := by
    generalize as.toList = l
    induction l with
    | nil => exact .nil
    | cons x l ih => exact .cons _ _ _ _ (hI.evOk x) ih
  refine ⟨_, VRels.append hcaps has, ?_⟩
  rintro ⟨fn, c, hfn, hbody, hname⟩
  unfold callOf at hcall
  split at hcall
  · rename_i cc hop
    split at hcall
    · rename_i ff hcal
      cases hcall
      have he := run_enter hfn hname hbody (cc.args.map a.eval ++ us2.toArray) w
      have hcc : cc.args.map a.eval ++ us2.toArray = List.toArray (cc.args.toList.map a.eval ++ us2) := by
        rw [← List.append_toArray, ← Array.toList_map, Array.toArray_toList]
      rw [← hcc]
      simp only [execOp, hop, resolve, hcal, hu2, Deferred.ofValue, Sem.run_bind, Sem.run_pure, Result.andThen_ok, invoke, Array.empty_append]
      exact he
    · cases hcall
  · cases hcall

theorem callStep (hI : Inv C S H N fr rt io a w) {base : Nat} (hb : ∀ k, base ≤ k → k < base + 8 → ¬ N k) {o : Oper} {f' : Operand} {as : Array Operand} {f : Nat} {caps vs : List AV} {en : Entry}
    (hcall : callOf o.op = some (f', as)) (hf : evF fr f' = .fn f caps) (hs : Sound C.P f en) (hvs : vs = as.toList.map (evF fr) ++ caps) {args : Args en.ps} (hargs : getArgs rt en.ps vs = some args)
    (hnd : nodupB (ioNames en.ps vs) = true) (hmt : meets (ioNames en.ps vs) (roRefs rt en.ps vs) = false) (hcnt : rowCount en.rs ≤ 8) {fz : List (Nat × Option Root)}
    (hfz : (bif en.aliases then AM.freeze rt (roRefs rt en.ps vs) else some []) = some fz) {r : Res en.rs × Outs en.ps} (hr : en.fn args = some r) (hd : ∀ k, o.dst = some k → k < C.nt)
    {K : Act → World → Prop} {Q : Exit → Act → World → Prop}
    (hK : ∀ a' w' S' H' N', Inv C S' H' N' (putF fr o.dst (resAV (putRes base en.rs r.1).1)) (updR rt (fz ++ (putOuts en.ps vs r.2 ++ (putRes base en.rs r.1).2))) io a' w' → (∀ n, N' n → N n ∨ (base ≤ n ∧ n < base + 8)) → K a' w') :
    o.wp C.P a w K Q := by
  obtain ⟨⟨fn, c, hfn, hbody, hname⟩, hcalls⟩ := hs
  -- the arguments' values
  have hvf := hI.evOk f'
  rw [hf] at hvf
  obtain ⟨us2, hu2, hcaps⟩ := hvf.fn_inv
  have has : VRels w S H N (as.toList.map (evF fr)) (as.toList.map a.eval) := by
    generalize as.toList = l
    induction l with
    | nil => exact .nil
    | cons x l ih => exact .cons _ _ _ _ (hI.evOk x) ih
  have hvr : VRels w S H N vs (as.toList.map a.eval ++ us2) := by rw [hvs]; exact VRels.append hcaps has
  -- frozen
  obtain ⟨Sf, hIf, hSf, hcase⟩ : ∃ Sf, Inv C Sf H N fr (updR rt fz) io a w ∧ (∀ b, S b → Sf b) ∧ ((en.aliases = false ∧ fz = []) ∨ (namesOf fz = roRefs rt en.ps vs ∧ ∀ n ∈ roRefs rt en.ps vs, ∀ g, (H n).g = some g → ∀ r, rt n = some r → r.own = true → Sf g)) := by
    cases hal : en.aliases with
    | false =>
      rw [hal] at hfz
      simp only [cond_false, Option.some.injEq] at hfz
      subst hfz
      exact ⟨S, hI, fun _ h => h, .inl ⟨rfl, rfl⟩⟩
    | true =>
      rw [hal] at hfz
      simp only [cond_true] at hfz
      obtain ⟨S', hI', hSS, hfzS, _, _⟩ := hI.freezeMany _ fz hfz
      exact ⟨S', hI', hSS, .inr ⟨names_freeze hfz, hfzS⟩⟩
  let ns := ioNames en.ps vs
  have hmeet := meets_iff hmt
  have hndup := nodupB_iff hnd
  let S0 : Nat → Prop := fun b => Sf b ∨ ∃ n ∈ roRefs rt en.ps vs, ∃ r, updR rt fz n = some r ∧ r.own = true ∧ (H n).g = some b
  have hS0 : ∀ b, S b → S0 b := fun b hb => .inl (hSf b hb)
  obtain ⟨harg, hios⟩ := getArgs_rel (S0 := S0) hI.roots hS0 en.ps vs _ args hvr hargs (by
    intro n hn r' hr' ho g hg
    rcases hcase with ⟨_, rfl⟩ | ⟨_, h⟩
    · exact .inr ⟨n, hn, r', hr', ho, hg⟩
    · exact .inl (h n hn g hg r' hr' ho))
  have hiof : ∀ n ∈ ns, ∃ q, updR rt fz n = some q ∧ q.own = true := by
    intro n hn
    obtain ⟨q, h, hq⟩ := hios n hn
    refine ⟨q, ?_, hq⟩
    rw [updR_off, h]
    rcases hcase with ⟨_, rfl⟩ | ⟨h, _⟩
    · simp [namesOf]
    · rw [h]; exact hmeet n hn
  have hdis : ∀ n ∈ ns, ∀ m ∈ ns, n ≠ m → ∀ g, (H n).g = some g → (H m).g ≠ some g := by
    intro n hn m hm hne g hg
    obtain ⟨q1, h1, o1⟩ := hiof n hn
    obtain ⟨q2, h2, o2⟩ := hiof m hm
    exact hIf.dis n m _ _ h1 h2 o1 o2 hne g hg
  have hioblk : ∀ n ∈ ns, ∀ g, (H n).g = some g → ¬ Sf g ∧ (C.w0.heap.size ≤ g ∨ g ∈ C.Wrs) ∧ g < w.heap.size := by
    intro n hn g hg
    obtain ⟨q1, h1, o1⟩ := hiof n hn
    have := hIf.mine n _ h1 o1 g hg
    exact ⟨this.1, this.2, hIf.lt n _ h1 g hg⟩
  have hgo := hcalls w S0 args _ (ns.map H) r hr harg (by
    rintro b (hb' | ⟨n, _, r', h1, _, h2⟩)
    · exact hIf.sub b hb'
    · exact hIf.lt n r' h1 b h2) (nodup_blocks hndup hdis) (by
    intro g hg
    obtain ⟨n, hn, hng⟩ := mem_blocks hg
    have h1 := hioblk n hn g hng
    refine ⟨?_, h1.2.2⟩
    rintro (h | ⟨m, hm, r', h2, h3, h4⟩)
    · exact h1.1 h
    · obtain ⟨q1, h5, o5⟩ := hiof n hn
      exact hIf.dis m n r' _ h2 h5 h3 o5 (fun e => hmeet n hn (e ▸ hm)) g h4 hng)
  -- the operation
  have hexec : (execOp a.eval o).run C.P w = .ok (.enter f (List.toArray (as.toList.map a.eval ++ us2))) w := by
    unfold callOf at hcall
    split at hcall
    · rename_i cc hop
      split at hcall
      · rename_i ff hcal
        cases hcall
        have he := run_enter hfn hname hbody (cc.args.map a.eval ++ us2.toArray) w
        have hcc : cc.args.map a.eval ++ us2.toArray = List.toArray (cc.args.toList.map a.eval ++ us2) := by
          rw [← List.append_toArray, ← Array.toList_map, Array.toArray_toList]
        rw [← hcc]
        simp only [execOp, hop, resolve, hcal, hu2, Deferred.ofValue, Sem.run_bind, Sem.run_pure, Result.andThen_ok, invoke, Array.empty_append]
        exact he
      · cases hcall
    · cases hcall
  unfold Oper.wp
  rw [hexec, Oper.upon_enter]
  refine Calls.mono hgo ?_
  intro e w' hleft
  cases e with
  | panicked => exact hleft.elim
  | outgrown => exact hleft.elim
  | returned v =>
    simp only at hleft
    obtain ⟨S1, us, hrs, hframe, hS1a, hS1b, rfl, hres, hout, hnd2, hblk⟩ := hleft
    let S' : Nat → Prop := fun b => Sf b ∨ (S1 b ∧ w.heap.size ≤ b)
    have hS1' : ∀ b, S1 b → en.aliases = true → S' b := by
      intro b hb1 hal
      rcases hS1b b hb1 with h | h
      · rcases h with h | ⟨n, hn, r', h1, h2, h3⟩
        · exact .inl h
        · rcases hcase with ⟨h, _⟩ | ⟨hnm, h⟩
          · rw [h] at hal; cases hal
          · -- frozen: not own
            have : updR rt fz n = some r' := h1
            exfalso
            have hon : n ∈ namesOf fz := by rw [hnm]; exact hn
            rw [hal] at hfz
            simp only [cond_true] at hfz
            obtain ⟨_, _, _, _, _, hon'⟩ := hI.freezeMany _ fz hfz
            obtain ⟨t, l, h4, _⟩ := hon' n hn
            rw [h4] at this
            cases this
            cases h2
      · exact .inr ⟨hb1, h.1⟩
    have hres' : ResRel w' S' en.rs r.1 us hrs := by
      cases hal : en.aliases with
      | true => exact hres.wider (fun b hb => hS1' b hb hal) en.rs r.1 us hrs
      | false =>
        simp only [Entry.aliases, Bool.or_eq_false_iff] at hal
        exact hres.flat en.rs r.1 us hrs hal.1
    have hout' : OutRel w' S' en.ps r.2 (ns.map H) := by
      cases hal : en.aliases with
      | true => exact hout.wider (fun b hb => hS1' b hb hal) en.ps r.2 _
      | false =>
        simp only [Entry.aliases, Bool.or_eq_false_iff] at hal
        exact hout.flat en.ps r.2 _ hal.2
    -- the world goes on
    have hIk := (hIf.killMany ns).world (w' := w') (S' := S') (fun b hb => .inl hb) (by
      rintro b (hb' | ⟨h1, h2⟩)
      · exact .inl hb'
      · rcases hS1b b h1 with h | h
        · exfalso
          have : b < w.heap.size := by
            rcases h with h | ⟨n, _, r', h3, _, h4⟩
            · exact hIf.sub b h
            · exact hIf.lt n r' h3 b h4
          omega
        · exact .inr h) (fun b => b ∈ blocks (ns.map H)) (by
      intro g hg
      obtain ⟨n, hn, hng⟩ := mem_blocks hg
      have h1 := hioblk n hn g hng
      refine ⟨h1.1, ?_, h1.2.1⟩
      intro k r' hk ho hkg
      have hkn : k ∉ ns := by
        intro hkm
        rw [killed_none hkm] at hk; cases hk
      rw [updR_off (by rw [names_killed]; exact hkn)] at hk
      obtain ⟨q1, h5, o5⟩ := hiof n hn
      exact hIf.dis k n r' _ hk h5 ho o5 (fun e => hkn (e ▸ hn)) g hkg hng) (fun b hb1 hb2 => hframe.block b hb1 hb2) hframe.size hframe.os hframe.tape hframe.output
    have hIo := hIk.setRows ns (outsD en.ps r.2) (hout'.rows) hndup (fun n hn => by
        obtain ⟨q1, h5, o5⟩ := hiof n hn
        exact hIf.named n _ h5) (by
      intro n hn g hg
      have h1 := hioblk n hn g hg
      refine ⟨?_, ?_, h1.2.1, Nat.lt_of_lt_of_le h1.2.2 hframe.size⟩
      · rintro (h | ⟨_, h⟩)
        · exact h1.1 h
        · omega
      · intro k r' hk ho hkn hkg
        rw [updR_off (by rw [names_killed]; exact hkn)] at hk
        obtain ⟨q1, h5, o5⟩ := hiof n hn
        exact hIf.dis k n r' _ hk h5 ho o5 (fun e => hkn (e ▸ hn)) g hkg hg) (fun n hn => killed_none hn) hdis
    have hrows := hres'.rows
    have hlen : (rowsRes en.rs r.1).length ≤ 8 := by rw [rowsRes_len]; exact hcnt
    obtain ⟨H2, N2, hI2, hold, hnew, hat, _⟩ := hIo.addRows (rowsRes en.rs r.1) hrs base hrows hnd2 (fun k h1 h2 => hb k h1 (by omega)) (by
      intro g hg
      have h1 := hblk g hg
      refine ⟨?_, ?_, Nat.le_trans hI.frame.size h1.1, h1.2.1⟩
      · rintro (h | ⟨h, _⟩)
        · have := hIf.sub g h; omega
        · exact h1.2.2 h
      · intro k r' hk ho hkg
        have : g < w.heap.size := by
          by_cases hkn : k ∈ ns
          · exact (hioblk k hkn g hkg).2.2
          · rw [updR_off (fun h => hkn (names_setsAt ns _ k h)), updR_off (by rw [names_killed]; exact hkn)] at hk
            exact hIf.lt k r' hk g hkg
        omega)
    have hnamed : Named H2 N2 base hrs := hat
    have hval := oneVal_rel (putRes_rel (H := H2) (N := N2) en.rs base r.1 us hrs hres' hnamed)
    have hfin := hI2.put o.dst hd hval
    obtain ⟨hpo, hpl⟩ := putOuts_eq en.ps vs args r.2 hargs
    have hroot : updR (updR (updR (updR rt fz) (killed ns)) (setsAt ns (outsD en.ps r.2))) (rowsAt base (rowsRes en.rs r.1)) = updR rt (fz ++ (putOuts en.ps vs r.2 ++ (putRes base en.rs r.1).2)) := by
      have hnm := names_setsAt' ns (outsD en.ps r.2) hpl
      rw [hpo, putRes_rows, updR_app, updR_app]
      rw [updR_over (l := killed ns) (by rw [names_killed, hnm]; exact fun _ h => h)]
      have hfzn : ∀ n ∈ namesOf fz, n ∉ ns ∧ N n := by
        intro n hn
        rcases hcase with ⟨_, rfl⟩ | ⟨h, _⟩
        · simp [namesOf] at hn
        · rw [h] at hn
          refine ⟨fun hns => hmeet n hns hn, ?_⟩
          have hal : en.aliases = true := by
            cases hal : en.aliases with
            | true => rfl
            | false =>
              rw [hal] at hfz
              simp only [cond_false, Option.some.injEq] at hfz
              subst hfz
              rw [← h] at hn
              simp [namesOf] at hn
          rw [hal] at hfz
          simp only [cond_true] at hfz
          obtain ⟨_, hI', _, _, _, hon'⟩ := hI.freezeMany _ fz hfz
          obtain ⟨t, l, h4, _⟩ := hon' n hn
          exact hI'.named n _ h4
      rw [updR_comm (l := fz) (m := setsAt ns (outsD en.ps r.2)) (by rw [hnm]; exact fun n hn => (hfzn n hn).1)]
      rw [updR_comm (l := fz) (m := rowsAt base (rowsRes en.rs r.1)) (by
        intro n hn hn2
        have := names_rowsAt _ _ _ hn2
        exact hb n this.1 (by omega) (hfzn n hn).2)]
      rw [updR_comm (l := setsAt ns (outsD en.ps r.2)) (m := rowsAt base (rowsRes en.rs r.1)) (by
        rw [hnm]
        intro n hn hn2
        have := names_rowsAt _ _ _ hn2
        obtain ⟨q1, h5, o5⟩ := hiof n hn
        exact hb n this.1 (by omega) (hIf.named n _ h5))]
    rw [hroot] at hfin
    refine hK _ w' S' H2 N2 hfin ?_
    intro n hn
    rcases hnew n hn with h | h
    · exact .inl h
    · exact .inr ⟨h.1, by omega⟩
end
end Go.AM
end

noncomputable section
namespace Go.AM
open Go.RowKit

/-- A state of the abstract machine and one of the model's, its names below b. -/
def GoodP (C : Ctx) (p : Nat → Prop) (s : St) (a : Act) (w : World) : Prop := ∃ S H N, Inv C S H N s.slot s.root s.io a w ∧ ∀ n, N n → p n
abbrev GoodB (C : Ctx) (b : Nat) (s : St) (a : Act) (w : World) : Prop := GoodP C (fun n => n < b) s a w
/-- The names from base on, eight of them, too. -/
def ext (p : Nat → Prop) (base : Nat) : Nat → Prop := fun n => p n ∨ (base ≤ n ∧ n < base + 8)
def FreeP (p : Nat → Prop) (base : Nat) : Prop := ∀ k, base ≤ k → k < base + 8 → ¬ p k
def Good (C : Ctx) (s : St) (a : Act) (w : World) : Prop := GoodB C s.nx s a w
theorem GoodB.le {C : Ctx} {b b' : Nat} {s : St} {a : Act} {w : World} (h : GoodB C b s a w) (hb : b ≤ b') : GoodB C b' s a w := by
  obtain ⟨S, H, N, hI, hN⟩ := h
  exact ⟨S, H, N, hI, fun n hn => Nat.lt_of_lt_of_le (hN n hn) hb⟩

theorem GoodP.imp {C : Ctx} {p q : Nat → Prop} {s : St} {a : Act} {w : World} (h : GoodP C p s a w) (hb : ∀ n, p n → q n) : GoodP C q s a w := by
  obtain ⟨S, H, N, hI, hN⟩ := h
  exact ⟨S, H, N, hI, fun n hn => hb n (hN n hn)⟩
theorem FreeP.lt (b : Nat) : FreeP (fun n => n < b) b := fun k h1 _ h2 => by omega
theorem ext_lt {b n : Nat} (h : ext (fun n => n < b) b n) : n < b + 8 := by
  rcases h with h | h <;> omega

/-- What all texts of a program stand on. -/
structure EnvOk (C : Ctx) (E : Env) : Prop where
  prog : C.P = E.P
  nt : C.nt = E.nt
  tbl : ∀ f en, E.tbl f = some en → Sound C.P f en
  mixed : C.P.follows .mixedOrders = true

section
variable {C : Ctx} {E : Env} {R : Type} {r : R}

theorem io_put (s : St) (d : Option Nat) (v : AV) (rs : List (Nat × Option Root)) : (s.put d v rs).io = s.io := rfl
theorem nx_put (s : St) (d : Option Nat) (v : AV) (rs : List (Nat × Option Root)) : (s.put d v rs).nx = s.nx := rfl
theorem Inv.sameSlot {S : Nat → Prop} {H : Nat → Loc} {N : Nat → Prop} {fr : Nat → AV} {rt : Nat → Option Root} {io : List Nat} {a : Act} {w : World} (hI : Inv C S H N fr rt io a w) (d : Nat) (hd : d < 4096) {c : AV} (hv : VRel w S H N c (a.tmps.getD d undef)) :
    Inv C S H N (putF fr (some d) c) rt io a w := by
  refine { hI with slots := ?_ }
  intro i
  simp only [putF, Option.some.injEq]
  split
  · rename_i e; subst e; rw [C.val_lt a hd]; exact hv
  · exact hI.slots i

theorem step_sound (hE : EnvOk C E) {o : Oper} {base : Nat} {s : St} {K : St → List Nat → List Nat → Option R} {a : Act} {w : World} {K' : Act → World → Prop} {Q : Exit → Act → World → Prop}
    {p : Nat → Prop} (hp : FreeP p base) (h : step E o base s K = some r) (hg : GoodP C p s a w)
    (hK : ∀ s' rd wr a' w', K s' rd wr = some r → s'.nx = s.nx → GoodP C (ext p base) s' a' w' → K' a' w') : o.wp C.P a w K' Q := by
  obtain ⟨S, H, N, hI, hN⟩ := hg
  have hb : ∀ k, base ≤ k → k < base + 8 → ¬ N k := fun k h1 h2 hn => hp k h1 h2 (hN k hn)
  unfold step at h
  cases hd : dstOk E o with
  | false => rw [hd] at h; cases h
  | true =>
    rw [hd] at h
    simp only [cond_true] at h
    have hd' : ∀ k, o.dst = some k → k < C.nt := by
      intro k hk
      unfold dstOk at hd
      rw [hk] at hd
      simp only at hd
      rw [hE.nt]
      exact Nat.lt_of_not_le (fun hle => by simp [Nat.blt, Nat.ble_eq] at hd; omega)
    split at h
    · rename_i f as hcall
      split at h
      · rename_i fid caps hfv
        split at h
        · rename_i en hen
          split at h
          · rename_i args hargs
            split at h
            · rename_i fz hfz
              cases hcond : (nodupB (ioNames en.ps (as.toList.map s.ev ++ caps)) && !meets (ioNames en.ps (as.toList.map s.ev ++ caps)) (roRefs s.root en.ps (as.toList.map s.ev ++ caps)) && Nat.ble (rowCount en.rs) 8) with
              | false => rw [hcond] at hfz; cases hfz
              | true =>
                rw [hcond] at hfz
                simp only [cond_true] at hfz
                simp only [Bool.and_eq_true, Bool.not_eq_true'] at hcond
                cases hrr : en.fn args with
                | none => rw [hrr] at h; cases h
                | some rr =>
                  rw [hrr] at h
                  simp only [Option.bind_some] at h
                  rw [ev_evF] at hfv hargs hfz hcond h
                  refine callStep hI hb hcall hfv (hE.tbl fid en hen) rfl hargs hcond.1.1 hcond.1.2 (Nat.le_of_ble_eq_true hcond.2) hfz hrr hd' ?_
                  intro a' w' S' H' N' hI' hN'
                  refine hK _ _ _ a' w' h rfl ⟨S', H', N', ?_, ?_⟩
                  · rw [slot_put, root_put, io_put]; exact hI'
                  · intro n hn
                    rcases hN' n hn with h1 | h1
                    · exact .inl (hN n h1)
                    · exact .inr h1
            · cases h
          · cases h
        · cases h
      · cases h
    · split at h
      · rename_i e he
        cases hge : e.g with
        | false => rw [hge] at h; cases h
        | true =>
          rw [hge] at h
          simp only [cond_true] at h
          rw [ev_evF] at he
          obtain ⟨nx, w', u, hrun, hnx, S', H', N', hI', hv, hN'⟩ := opEff_sound hI hb hE.prog he hge
          have hput := hI'.put o.dst hd' hv
          have hgood : GoodP C (ext p base) (s.put o.dst e.v e.rs) (a.put o.dst u) w' := by
            refine ⟨S', H', N', ?_, ?_⟩
            · rw [slot_put, root_put, io_put]; exact hput
            · intro n hn
              rcases hN' n hn with h1 | h1
              · exact .inl (hN n h1)
              · exact .inr h1
          unfold Oper.wp
          rw [hrun]
          rcases hnx with rfl | ⟨rfl, rfl⟩
          · exact hK _ _ _ _ w' h rfl hgood
          · exact hK _ _ _ _ w' h rfl hgood
      · cases h

theorem yielded_of {S : Nat → Prop} {H : Nat → Loc} {N : Nat → Prop} {w : World} {ops : Array Oper} {a : Act} {j d : Nat} {p : Bool} (hd : (ops[j]?).bind (·.dst) = some d) (hv : VRel w S H N (.val .bool p) (a.tmps.getD d undef)) :
    yielded ops a.tmps j = some p := by
  have e := hv.bool_inv
  have hlt : d < a.tmps.size := by
    rcases Nat.lt_or_ge d a.tmps.size with h | h
    · exact h
    · rw [Array.getD_eq_getD_getElem?, Array.getElem?_eq_none h] at e
      cases e
  rw [Array.getD_eq_getD_getElem?, Array.getElem?_eq_getElem hlt] at e
  simp only [Option.getD_some] at e
  simp [yielded, hd, Array.getElem?_eq_getElem hlt, e]
theorem yielded_skip {S : Nat → Prop} {H : Nat → Loc} {N : Nat → Prop} {w : World} {ops : Array Oper} {a : Act} {j d : Nat} (hd : (ops[j]?).bind (·.dst) = some d) (hv : VRel w S H N (.tup []) (a.tmps.getD d undef)) :
    yielded ops a.tmps j = none := by
  obtain ⟨us, e, hus⟩ := hv.tup_inv
  cases hus
  unfold yielded
  rw [hd]
  simp only [Option.bind_some]
  rw [Array.getD_eq_getD_getElem?] at e
  cases hx : a.tmps[d]? with
  | none => rfl
  | some x =>
    rw [hx] at e
    simp only [Option.getD_some] at e
    subst e
    rfl

/-- One operation with its guard, by its contract: what any order needs. -/
def guarded {R : Type} (E : Env) (ops : Array Oper) (o : Oper) (base : Nat) (s : St) (K : St → List Nat → List Nat → Option R) : Option R :=
  guardedG ops o s (fun s => step E o base s K) (fun s => K (s.put o.dst (.tup []) []) [] [])

theorem skip_good {b : Nat → Prop} {s : St} {a : Act} {w : World} {o : Oper} (hd : ∀ k, o.dst = some k → k < C.nt) (hg : GoodP C b s a w) : GoodP C b (s.put o.dst (.tup []) []) (a.put o.dst undef) w := by
  obtain ⟨S, H, N, hI, hN⟩ := hg
  refine ⟨S, H, N, ?_, hN⟩
  rw [slot_put, root_put, io_put]
  exact hI.put o.dst hd (.tup [] [] .nil)
theorem put_good {b : Nat → Prop} {s : St} {a : Act} {w : World} {d : Nat} {p : Bool} (hd : d < 4096) (hv : a.tmps.getD d undef = .bool p) (hg : GoodP C b s a w) : GoodP C b (s.put (some d) (.val .bool p) []) a w := by
  obtain ⟨S, H, N, hI, hN⟩ := hg
  refine ⟨S, H, N, ?_, hN⟩
  rw [slot_put, root_put, io_put]
  refine hI.sameSlot d hd ?_
  rw [hv]
  exact rel_bool p
theorem same_good {b : Nat → Prop} {s : St} {a : Act} {w : World} {d : Nat} {p : Bool} (hs : slq s.slot d = .val .bool p) (hg : GoodP C b s a w) : GoodP C b (s.put (some d) (.val .bool p) []) a w := by
  have hd := (slq_lt hs (by simp)).1
  obtain ⟨S, H, N, hI, hN⟩ := hg
  have := hI.slq d
  rw [hs] at this
  exact put_good hd this.bool_inv ⟨S, H, N, hI, hN⟩

/-- Every operation's result lies in a slot. -/
def dstsOk (E : Env) (ops : Array Oper) : Bool := ops.toList.all (dstOk E)
theorem dstOk_lt (hE : EnvOk C E) {o : Oper} (h : dstOk E o = true) : ∀ k, o.dst = some k → k < C.nt := by
  intro k hk
  unfold dstOk at h
  rw [hk] at h
  simp only at h
  rw [hE.nt]
  exact Nat.lt_of_not_le (fun hle => by simp [Nat.blt, Nat.ble_eq] at h; omega)

theorem guardedG_sound (hE : EnvOk C E) {ops : Array Oper} {o : Oper} (hdst : dstOk E o = true) {s : St} {run skip : St → Option R} {a : Act} {w : World} {K' : Act → World → Prop} {Q : Exit → Act → World → Prop}
    {q : Nat → Prop} (h : guardedG ops o s run skip = some r) (hg : GoodP C q s a w)
    (hrun : ∀ s', run s' = some r → s'.nx = s.nx → GoodP C q s' a w → o.wp C.P a w K' Q)
    (hskip : ∀ s', skip s' = some r → s'.nx = s.nx → GoodP C q (s'.put o.dst (.tup []) []) (a.put o.dst undef) w → K' (a.put o.dst undef) w) :
    (if Region.wanted o (yielded ops a.tmps) then o.wp C.P a w K' Q ∨ (o.asks C.P a w ∧ LetsOut Q) else K' (a.put o.dst undef) w) := by
  have hd := dstOk_lt hE hdst
  unfold guardedG at h
  split at h
  · rename_i hgd
    have : Region.wanted o (yielded ops a.tmps) = true := by simp [Region.wanted, hgd]
    rw [if_pos this]
    exact .inl (hrun s h rfl hg)
  · rename_i j want hgd
    split at h
    · rename_i d hdd
      split at h
      · rename_i p hs
        have hgs := same_good hs hg
        have hy : yielded ops a.tmps j = some p := by
          obtain ⟨S, H, N, hI, hN⟩ := hg
          have := hI.slq d
          rw [hs] at this
          exact yielded_of hdd this
        have hw : Region.wanted o (yielded ops a.tmps) = (p == want) := by
          simp [Region.wanted, hgd, hy]
        cases p with
        | true =>
          simp only [cond_true] at h
          cases want with
          | true =>
            simp only [if_true] at h
            rw [hw]
            simp only [BEq.rfl, if_true]
            exact .inl (hrun _ h rfl hgs)
          | false =>
            simp only [Bool.false_eq_true, if_false] at h
            rw [hw, if_neg (by simp)]
            exact hskip _ h rfl (skip_good hd hgs)
        | false =>
          simp only [cond_false] at h
          cases want with
          | true =>
            simp only [if_true] at h
            rw [hw, if_neg (by simp)]
            exact hskip _ h rfl (skip_good hd hgs)
          | false =>
            simp only [Bool.false_eq_true, if_false] at h
            rw [hw]
            simp only [BEq.rfl, if_true]
            exact .inl (hrun _ h rfl hgs)
      · rename_i hs
        have hy : yielded ops a.tmps j = none := by
          obtain ⟨S, H, N, hI, hN⟩ := hg
          have := hI.slq d
          rw [hs] at this
          exact yielded_skip hdd this
        have hw : Region.wanted o (yielded ops a.tmps) = false := by simp [Region.wanted, hgd, hy]
        rw [hw, if_neg (by simp)]
        exact hskip _ h rfl (skip_good hd hg)
      · cases h
    · cases h
theorem guarded_sound (hE : EnvOk C E) {ops : Array Oper} {o : Oper} {base i : Nat} (_ho : ops[i]? = some o) (hdst : dstOk E o = true) {s : St} {K : St → List Nat → List Nat → Option R} {a : Act} {w : World} {K' : Act → World → Prop} {Q : Exit → Act → World → Prop}
    {q : Nat → Prop} (hp : FreeP q base) (h : guarded E ops o base s K = some r) (hg : GoodP C q s a w)
    (hK : ∀ s' rd wr a' w', K s' rd wr = some r → s'.nx = s.nx → GoodP C (ext q base) s' a' w' → K' a' w') :
    (if Region.wanted o (yielded ops a.tmps) then o.wp C.P a w K' Q ∨ (o.asks C.P a w ∧ LetsOut Q) else K' (a.put o.dst undef) w) :=
  guardedG_sound hE hdst h hg (fun s' h1 hn hg' => step_sound hE hp h1 hg' (fun s'' rd wr a' w' h2 hn2 h3 => hK s'' rd wr a' w' h2 (hn2.trans hn) h3))
    (fun s' h1 hn hg' => hK _ _ _ _ w h1 hn (hg'.imp (fun _ hn => .inl hn)))

/-- What is run in place tells the truth. -/
def InlOk (C : Ctx) (J : Inl R) (r : R) : Prop := ∀ (site f : Nat) (vs : List AV) (s : St) (K : St → AV → Option R) (a : Act) (w : World) (us : List Value) (Post : Value → World → Prop), J site f vs s K = some r →
  (∃ S H N, Inv C S H N s.slot s.root s.io a w ∧ (∀ n, N n → n < s.nx) ∧ VRels w S H N vs us) →
  (∀ s' v u w' S' H' N', K s' v = some r → Inv C S' H' N' s'.slot s'.root s'.io a w' → (∀ n, N' n → n < s'.nx) → VRel w' S' H' N' v u → Post u w') →
  Entered C.P f ∧ Calls C.P f us.toArray w fun e w' => match e with | .returned u => Post u w' | _ => False
theorem noInl_ok : InlOk C (noInl : Inl R) r := fun _ _ _ _ _ _ _ _ _ h => by cases h

theorem steps_sound (hE : EnvOk C E) {J : Inl R} (hJ : InlOk C J r) {rid : Nat} {ops : Array Oper} (hdst : dstsOk E ops = true) {K : St → List Log → Option R} {Q : Exit → Act → World → Prop} : ∀ (rest : List Oper) (nx i : Nat) (s : St) (lg : List Log) (a : Act) (w : World),
    i ≤ ops.size → ops.toList.drop i = rest → steps E J rid ops rest nx i s lg K = some r → s.nx = nx → GoodB C (nx + 8 * i) s a w →
    (∀ s' lg' a' w', K s' lg' = some r → GoodB C (s'.nx + 8 * ops.size) s' a' w' → Q .normal a' w') → wpOps C.P ops Q (List.range' i (ops.size - i)) a w
  | [], nx, i, s, lg, a, w, hle, hrest, h, hn, hg, hK => by
    have hi : ops.size ≤ i := by
      have := congrArg List.length hrest
      simp at this
      omega
    have : ops.size - i = 0 := by omega
    rw [this]
    simp only [List.range', wpOps]
    simp only [steps] at h
    have e : i = ops.size := by omega
    subst e
    subst hn
    exact hK s lg a w h hg
  | o :: rest, nx, i, s, lg, a, w, hle, hrest, h, hn, hg, hK => by
    have hi : i < ops.size := by
      have := congrArg List.length hrest
      simp at this
      omega
    have ho : ops[i]? = some o := by
      have := congrArg (fun l : List Oper => l[0]?) hrest
      simpa using this
    have hrest' : ops.toList.drop (i + 1) = rest := by
      have := congrArg List.tail hrest
      simpa using this
    have hdo : dstOk E o = true := by
      refine List.all_eq_true.1 hdst o ?_
      exact Array.mem_toList_iff.2 (Array.mem_of_getElem? ho)
    have e : ops.size - i = (ops.size - (i + 1)) + 1 := by omega
    rw [e, List.range'_succ]
    simp only [wpOps, ho]
    unfold steps at h
    refine guardedG_sound hE hdo h hg ?_ ?_
    · intro s1 h1 hn1 hg1
      split at h1
      · rename_i f vs hin
        rw [hdo] at h1
        simp only [cond_true] at h1
        unfold inlOf at hin
        split at hin
        · rename_i f' as hcall
          split at hin
          · rename_i fid caps hfv
            split at hin
            · cases hin
            · cases hin
              obtain ⟨S, H, N, hI, hN⟩ := hg1
              rw [ev_evF] at hfv h1
              obtain ⟨us, hus, hex⟩ := call_exec hI hcall hfv
              obtain ⟨hent, hcalls⟩ := hJ _ _ _ _ _ a w us (fun u w' => wpOps C.P ops Q (List.range' (i + 1) (ops.size - (i + 1))) (a.put o.dst u) w') h1 ⟨S, H, N, hI, hN, hus⟩ (by
                intro s' v u w' S' H' N' hk hI' hN' hv
                refine steps_sound hE hJ hdst rest s'.nx (i + 1) _ _ _ w' hi hrest' hk rfl ⟨S', H', N', ?_, fun n hn => Nat.lt_of_lt_of_le (hN' n hn) (by omega)⟩ hK
                rw [slot_put, root_put, io_put]
                exact hI'.put o.dst (dstOk_lt hE hdo) hv)
              unfold Oper.wp
              rw [hex hent, Oper.upon_enter]
              refine Calls.mono hcalls ?_
              intro ex w' hx
              cases ex with
              | returned u => exact hx
              | _ => exact hx.elim
          · cases hin
        · cases hin
      · refine step_sound hE (FreeP.lt _) h1 hg1 ?_
        intro s' rd wr a' w' h2 hn2 h3
        exact steps_sound hE hJ hdst rest nx (i + 1) s' _ a' w' hi hrest' h2 (hn2.trans (hn1.trans hn)) (h3.imp (fun n hn => by have := ext_lt hn; omega)) hK
    · intro s1 h1 hn1 hg1
      exact steps_sound hE hJ hdst rest nx (i + 1) _ _ _ w hi hrest' h1 (hn1.trans hn) (hg1.imp (fun n hn => by omega)) hK
end
end Go.AM
end

noncomputable section
namespace Go.AM
open Go.RowKit

section
variable {C : Ctx} {w : World} {S S' : Nat → Prop} {H H' : Nat → Loc} {N N' : Nat → Prop} {rt : Nat → Option Root} {io : List Nat} {a : Act} {fr : Nat → AV}

theorem VRel.nils_inv {v : Value} (h : VRel w S H N .nils v) : v = .slice none 0 0 := by cases h; rfl
theorem VRel.plain {c : AV} {v : Value} (hc : plainB c = true) (hS : ∀ b, S b → S' b) (h : VRel w S H N c v) : VRel w S' H' N' c v := by
  cases h with
  | undef v => exact .undef v
  | nils => exact .nils
  | val t x cs hr => exact .val t x cs (hr.mono hS (fun _ _ => rfl))
  | nb s n p h => exact .nb s n p h
  | pw t x g p cs h1 h2 h3 => exact .pw t x g p cs (hS g h1) (h2.mono hS (fun _ _ => rfl)) h3
  | _ => simp [plainB] at hc
theorem VRels.plain (hS : ∀ b, S b → S' b) {cs : List AV} : ∀ {vs : List Value}, cs.all plainB = true → VRels w S H N cs vs → VRels w S' H' N' cs vs := by
  induction cs with
  | nil => intro vs _ h; cases h; exact .nil
  | cons c cs ih =>
    intro vs hc h
    simp only [List.all_cons, Bool.and_eq_true] at hc
    cases h with
    | cons _ v _ vs hv hvs => exact .cons _ _ _ _ (hv.plain hc.1 hS) (ih hc.2 hvs)
theorem clean_some {o : Option Root} {r : Root} (h : cleanRoot o = some r) : o = some r ∧ ∀ cs, r = .cell cs → cs.all plainB = true := by
  cases o with
  | none => cases h
  | some q =>
    cases q with
    | cell cs =>
      simp only [cleanRoot] at h
      cases hb : cs.all plainB with
      | false => rw [hb] at h; cases h
      | true => rw [hb] at h; cases h; exact ⟨rfl, fun cs' e => by cases e; exact hb⟩
    | row e t l => cases h; exact ⟨rfl, fun cs e => by cases e⟩
    | fro t l => cases h; exact ⟨rfl, fun cs e => by cases e⟩
theorem RootRel.rename {n n' : Nat} {r : Root} (hr : RootRel w S H N n r) (hcl : ∀ cs, r = .cell cs → cs.all plainB = true) (hS : ∀ b, S b → S' b) (hH : H' n' = H n) : RootRel w S' H' N' n' r := by
  cases r with
  | row e t l => simp only [RootRel] at hr ⊢; rw [hH]; exact hr.wider hS
  | fro t l => simp only [RootRel] at hr ⊢; rw [hH]; exact FroRel.mono hr hS (fun _ _ => rfl)
  | cell cs =>
    simp only [RootRel] at hr ⊢
    rw [hH]
    obtain ⟨g, T, vs, h1, h2, h3, h4⟩ := hr
    exact ⟨g, T, vs, h1, h2, h3.plain hS (hcl cs rfl), h4⟩

theorem Inv.widen (hI : Inv C S H N fr rt io a w) (hS : ∀ b, S b → S' b) (hown : ∀ n r, rt n = some r → r.own = true → ∀ g, (H n).g = some g → ¬ S' g)
    (hsub : ∀ b, S' b → b < w.heap.size) (hlow : ∀ b, S' b → C.S0 b ∨ C.w0.heap.size ≤ b ∨ b ∈ C.Wrs) : Inv C S' H N fr rt io a w := by
  constructor
  · exact fun i => (hI.slots i).mono hS (fun _ _ => rfl) (fun _ _ => rfl) (fun _ hn => hn)
  · exact fun n r hr => (hI.roots n r hr).mono (hI.named n r hr) hS (fun _ _ => rfl) (fun _ _ => rfl) (fun _ hn => hn) (fun _ _ _ => rfl)
  · exact hI.named
  · exact fun n r hr ho g hg => ⟨hown n r hr ho g hg, (hI.mine n r hr ho g hg).2⟩
  · exact hI.lt
  · exact hI.dis
  · exact hsub
  · exact fun b hb => hS b (hI.sup b hb)
  · exact hlow
  · exact hI.frame
  · exact hI.size
  · exact hI.def0
  · exact hI.ios
  · exact hI.ion
  · exact hI.iond

/-- What has been laid so far of a new head state. -/
structure Norm (C : Ctx) (S : Nat → Prop) (H : Nat → Loc) (s : St) (a : Act) (w : World) (ren : List (Nat × Nat)) (fz : List Nat) (fr : List (Nat × AV)) (rt : List (Nat × Option Root)) (nx : Nat) (S' : Nat → Prop) (H' : Nat → Loc) : Prop where
  inv : Inv C S' H' (fun n => n < nx) (fun _ => .undef) (look none rt) (List.range s.io.length) a w
  slots : ∀ p ∈ fr, VRel w S' H' (fun n => n < nx) p.2 (C.val a p.1)
  keys : ∀ p ∈ rt, p.1 < nx
  nodup : (rt.map (·.1)).Nodup
  up : ∀ b, S b → S' b
  olds : ∀ p ∈ ren, p.2 < nx ∧ H' p.2 = H p.1
  owns : ∀ n' r, look none rt n' = some r → r.own = true → (∃ p ∈ ren, p.2 = n' ∧ ∃ r0, s.root p.1 = some r0 ∧ r0.own = true) ∨ (H' n').g = none
  low : ∀ b, S' b → S b ∨ ∃ n ∈ fz, (∃ r, s.root n = some r ∧ r.own = true) ∧ (H n).g = some b
  apart : ∀ n ∈ fz, ∀ p ∈ ren, p.1 ≠ n

theorem look_mem {α : Type} {d : α} {l : List (Nat × α)} {n : Nat} : look d l n = d ∨ (n, look d l n) ∈ l := by
  induction l with
  | nil => exact .inl rfl
  | cons x l ih =>
    obtain ⟨j, v⟩ := x
    simp only [look]
    by_cases h : j = n
    · subst h; right; simp
    · rw [beq_ne h, cond_false]
      rcases ih with h' | h'
      · exact .inl h'
      · exact .inr (List.mem_cons_of_mem _ h')
theorem look_of_mem {α : Type} {d : α} {l : List (Nat × α)} {n : Nat} {v : α} (hnd : (l.map (·.1)).Nodup) (h : (n, v) ∈ l) : look d l n = v := by
  induction l with
  | nil => cases h
  | cons x l ih =>
    obtain ⟨j, u⟩ := x
    simp only [List.map_cons, List.nodup_cons] at hnd
    simp only [look]
    rcases List.mem_cons.1 h with h | h
    · cases h; simp
    · have : j ≠ n := fun e => hnd.1 (List.mem_map.2 ⟨(n, v), h, e.symm⟩)
      rw [beq_ne this, cond_false]
      exact ih hnd.2 h
theorem look_reverse {α : Type} {d : α} {l : List (Nat × α)} (hnd : (l.map (·.1)).Nodup) (n : Nat) : look d l.reverse n = look d l n := by
  have hnd' : (l.reverse.map (·.1)).Nodup := by
    rw [List.map_reverse]
    unfold List.Nodup at *
    rw [List.pairwise_reverse]
    exact hnd.imp (fun h e => h e.symm)
  by_cases h : n ∈ l.map (·.1)
  · obtain ⟨⟨m, v⟩, hm, rfl⟩ := List.mem_map.1 h
    rw [look_of_mem hnd hm, look_of_mem hnd' (List.mem_reverse.2 hm)]
  · have h1 : ∀ (k : List (Nat × α)), n ∉ k.map (·.1) → look d k n = d := by
      intro k hk
      induction k with
      | nil => rfl
      | cons x k ih =>
        obtain ⟨j, v⟩ := x
        simp only [List.map_cons, List.mem_cons, not_or] at hk
        simp only [look]
        rw [beq_ne (fun e => hk.1 e.symm), cond_false]
        exact ih hk.2
    rw [h1 l h, h1 l.reverse (by rw [List.map_reverse]; simpa using h)]

variable {s : St} {ren : List (Nat × Nat)} {fz : List Nat} {fl : List (Nat × AV)} {rl : List (Nat × Option Root)} {nx : Nat}

theorem Norm.done (h : Norm C S H s a w ren fz fl rl nx S' H') : Good C ⟨fl.reverse, rl.reverse, nx, List.range s.io.length⟩ a w := by
  refine ⟨S', H', fun n => n < nx, ?_, fun n hn => hn⟩
  have hroot : (St.root ⟨fl.reverse, rl.reverse, nx, List.range s.io.length⟩) = look none rl := by
    funext n
    exact look_reverse h.nodup n
  rw [hroot]
  refine { h.inv with slots := ?_ }
  intro i
  show VRel _ _ _ _ (look .undef fl.reverse i) _
  rcases look_mem (d := AV.undef) (l := fl.reverse) (n := i) with e | e
  · rw [e]; exact .undef _
  · exact h.slots _ (List.mem_reverse.1 e)

theorem Norm.slot (h : Norm C S H s a w ren fz fl rl nx S' H') {k : Nat} {c : AV} (hv : VRel w S' H' (fun n => n < nx) c (C.val a k)) : Norm C S H s a w ren fz ((k, c) :: fl) rl nx S' H' := by
  refine { h with slots := ?_ }
  intro p hp
  rcases List.mem_cons.1 hp with rfl | hp
  · exact hv
  · exact h.slots p hp

theorem addN_lt (nx : Nat) : addN (fun n => n < nx) nx = fun n => n < nx + 1 := by
  funext n
  exact propext ⟨fun h => by rcases h with h | h <;> omega, fun h => by simp only [addN]; omega⟩

/-- One root more. -/
theorem Norm.root (h : Norm C S H s a w ren fz fl rl nx S' H') (hl : Loc) (r : Root) (ren' : List (Nat × Nat))
    (hlt : ∀ g, hl.g = some g → g < w.heap.size) (hfree : r.own = true → ∀ g, hl.g = some g → ¬ S' g ∧ (∀ n r', look none rl n = some r' → r'.own = true → (H' n).g ≠ some g) ∧ (C.w0.heap.size ≤ g ∨ g ∈ C.Wrs))
    (hrel : RootRel w S' (updH H' nx hl) (addN (fun n => n < nx) nx) nx r) (hren : ∀ p ∈ ren', p ∈ ren ∨ (p.2 = nx ∧ hl = H p.1)) (hren2 : ∀ p ∈ ren, p ∈ ren') (hown : r.own = true → (∃ p ∈ ren', p.2 = nx ∧ ∃ r0, s.root p.1 = some r0 ∧ r0.own = true) ∨ hl.g = none)
    (hap : ∀ n ∈ fz, ∀ p ∈ ren', p.1 ≠ n) : Norm C S H s a w ren' fz fl ((nx, some r) :: rl) (nx + 1) S' (updH H' nx hl) := by
  have hH : updH H' nx hl nx = hl := by simp [updH]
  have hHo : ∀ n, n < nx → updH H' nx hl n = H' n := by
    intro n hn
    simp only [updH]
    rw [if_neg (by omega)]
  have key := h.inv.setRootG (w' := w) nx hl r (fun hn => absurd hn (Nat.lt_irrefl _)) hlt (fun ho g hg => by
    have := hfree ho g hg
    exact ⟨this.1, fun n r' hn ho' _ => this.2.1 n r' hn ho', this.2.2⟩) (fun _ => False) (fun _ h => h.elim) (fun _ _ _ => rfl) (Nat.le_refl _) rfl rfl rfl hrel
  rw [addN_lt] at key
  have hlk : ∀ n, look none ((nx, some r) :: rl) n = updR (look none rl) [(nx, some r)] n := fun n => rfl
  refine ⟨key, ?_, ?_, ?_, h.up, ?_, ?_, h.low, hap⟩
  · intro p hp
    exact (h.slots p hp).mono (fun _ hb => hb) (fun _ _ => rfl) (fun n hn => hHo n hn) (fun n hn => Nat.lt_succ_of_lt hn)
  · intro p hp
    rcases List.mem_cons.1 hp with rfl | hp
    · exact Nat.lt_succ_self _
    · exact Nat.lt_succ_of_lt (h.keys p hp)
  · simp only [List.map_cons, List.nodup_cons]
    refine ⟨?_, h.nodup⟩
    intro hm
    obtain ⟨p, hp, e⟩ := List.mem_map.1 hm
    have := h.keys p hp
    omega
  · intro p hp
    rcases hren p hp with hp' | ⟨e1, e2⟩
    · have := h.olds p hp'
      exact ⟨Nat.lt_succ_of_lt this.1, by rw [hHo _ this.1]; exact this.2⟩
    · rw [e1, hH]
      exact ⟨Nat.lt_succ_self _, e2⟩
  · intro n' r' hn ho
    rw [hlk, updR_cons] at hn
    split at hn
    · rename_i e
      subst e
      cases hn
      rcases hown ho with h' | h'
      · exact .inl h'
      · exact .inr (by rw [hH]; exact h')
    · rw [updR_nil] at hn
      have hlt' := h.inv.named n' r' hn
      rcases h.owns n' r' hn ho with ⟨p, hp, h1, h2⟩ | h'
      · exact .inl ⟨p, hren2 p hp, h1, h2⟩
      · exact .inr (by rw [hHo n' hlt']; exact h')

theorem find_none {ren : List (Nat × Nat)} {n : Nat} (h : ren.find? (fun p => Nat.beq p.1 n) = none) : ∀ p ∈ ren, p.1 ≠ n := by
  intro p hp e
  have := List.find?_eq_none.1 h p hp
  rw [e] at this
  simp at this
theorem find_some {ren : List (Nat × Nat)} {n : Nat} {p : Nat × Nat} (h : ren.find? (fun p => Nat.beq p.1 n) = some p) : p ∈ ren ∧ p.1 = n :=
  ⟨List.mem_of_find?_eq_some h, Nat.eq_of_beq_eq_true (by have := List.find?_some h; exact this)⟩
theorem memB_false {n : Nat} {l : List Nat} (h : memB n l = false) : n ∉ l := by
  intro hm
  have := (List.any_eq_false.1 h) n hm
  simp at this

/-- An old root under a new name. -/
theorem Norm.old (hI : Inv C S H N s.slot s.root s.io a w) (h : Norm C S H s a w ren fz fl rl nx S' H') {n : Nat} {r : Root} (hr : cleanRoot (s.root n) = some r) (hn : ∀ p ∈ ren, p.1 ≠ n) (hf : n ∉ fz) :
    Norm C S H s a w ((n, nx) :: ren) fz fl ((nx, some r) :: rl) (nx + 1) S' (updH H' nx (H n)) := by
  obtain ⟨hroot, hcl⟩ := clean_some hr
  refine h.root (H n) r _ (fun g hg => hI.lt n r hroot g hg) ?_ ((hI.roots n r hroot).rename hcl h.up (by simp [updH])) ?_ (fun p hp => List.mem_cons_of_mem _ hp) (fun ho => .inl ⟨(n, nx), by simp, rfl, r, hroot, ho⟩) ?_
  · intro ho g hg
    have hm := hI.mine n r hroot ho g hg
    refine ⟨?_, ?_, hm.2⟩
    · intro hs
      rcases h.low g hs with h1 | ⟨m, hm', ⟨r', hr', ho'⟩, hg'⟩
      · exact hm.1 h1
      · exact hI.dis n m r r' hroot hr' ho ho' (fun e => hf (e ▸ hm')) g hg hg'
    · intro n' r' hn' ho' hg'
      rcases h.owns n' r' hn' ho' with ⟨p, hp, rfl, r0, hpr, ho0⟩ | h1
      · have := (h.olds p hp).2
        rw [this] at hg'
        exact hI.dis n p.1 r r0 hroot hpr ho ho0 (fun e => hn p hp e.symm) g hg hg'
      · rw [h1] at hg'; cases hg'
  · intro p hp
    rcases List.mem_cons.1 hp with rfl | hp
    · exact .inr ⟨rfl, rfl⟩
    · exact .inl hp
  · intro m hm p hp
    rcases List.mem_cons.1 hp with rfl | hp
    · exact fun (e : n = m) => hf (e ▸ hm)
    · exact h.apart m hm p hp

theorem rename_ref {n n' : Nat} {o : Option (Nat × Nat)} {v : Value} (hS : ∀ b, S b → S' b) (hN : N' n') (hH : H' n' = H n) (h : VRel w S H N (.ref n o) v) : VRel w S' H' N' (.ref n' o) v := by
  cases h with
  | ref _ _ => rw [← hH]; exact .ref n' hN
  | part _ o k A c h1 h2 h3 h4 => exact .part n' o k A c hN h2 (by rw [hH]; exact h3) (by rw [hH]; exact h4)
theorem rename_pc {n n' o : Nat} {v : Value} (hN : N' n') (hH : H' n' = H n) (h : VRel w S H N (.pc n o) v) : VRel w S' H' N' (.pc n' o) v := by
  obtain ⟨g, rfl, _, h2⟩ := h.pc_inv
  exact .pc n' o g hN (by rw [hH]; exact h2)
theorem rename_pa {n n' : Nat} {v : Value} (hN : N' n') (hH : H' n' = H n) (h : VRel w S H N (.pa n) v) : VRel w S' H' N' (.pa n') v := by
  cases h with
  | pa _ g _ h2 => exact .pa n' g hN (by rw [hH]; exact h2)

theorem VRel.agg_inv' {cs : List AV} {v : Value} (h : VRel w S H N (.agg cs) v) : ∃ vs, VRels w S H N cs vs ∧ (∀ u ∈ vs, u.oneCell' = true) ∧ v = .agg vs.toArray := by
  cases h with
  | agg _ vs h1 h2 => exact ⟨vs, h1, h2, rfl⟩
theorem Norm.newRow (h : Norm C S H s a w ren fz fl rl nx S' H') (e : Nat) (t : Ty) : Norm C S H s a w ren fz fl ((nx, some (.row e t [])) :: rl) (nx + 1) S' (updH H' nx ⟨none, 0, t.cells, 0⟩) :=
  h.root ⟨none, 0, t.cells, 0⟩ (.row e t []) ren (fun g hg => by cases hg) (fun _ g hg => by cases hg) (by
    have e' : updH H' nx ⟨none, 0, t.cells, 0⟩ nx = ⟨none, 0, t.cells, 0⟩ := by simp [updH]
    simp only [RootRel]
    rw [e']
    exact ⟨rfl, rfl, [], World.ownsRow_nil w 0 e t.cells, rfl⟩) (fun p hp => .inl hp) (fun p hp => hp) (fun _ => .inr rfl) h.apart
theorem updH_lt {m : Nat} (hl : Loc) : ∀ n, n < m → updH H' m hl n = H' n := by
  intro n hn
  simp only [updH]
  rw [if_neg (by omega)]
/-- A variable under a new name, its cells' rows named anew. -/
theorem Norm.cellRoot (hI : Inv C S H N s.slot s.root s.io a w) (h : Norm C S H s a w ren fz fl rl nx S' H') {n g : Nat} {cs cs' : List AV} {vs : List Value} {T : TypeId} (hroot : s.root n = some (.cell cs)) (hn : ∀ p ∈ ren, p.1 ≠ n) (hf : n ∉ fz)
    (hg : (H n).g = some g) (hmem : w.heap[g]? = some (.cells (List.toArray vs) T (0, 0))) (hv : VRels w S' H' (fun n => n < nx) cs' vs) (hone : ∀ u ∈ vs, u.oneCell' = true) :
    Norm C S H s a w ((n, nx) :: ren) fz fl ((nx, some (.cell cs')) :: rl) (nx + 1) S' (updH H' nx (H n)) := by
  refine h.root (H n) (.cell cs') _ (fun g hg => hI.lt n _ hroot g hg) ?_ ?_ ?_ (fun p hp => List.mem_cons_of_mem _ hp) (fun _ => .inl ⟨(n, nx), by simp, rfl, _, hroot, rfl⟩) ?_
  · intro _ g hg
    have hm := hI.mine n _ hroot rfl g hg
    refine ⟨?_, ?_, hm.2⟩
    · intro hs
      rcases h.low g hs with h1 | ⟨m, hm', ⟨r', hr', ho'⟩, hg'⟩
      · exact hm.1 h1
      · exact hI.dis n m _ r' hroot hr' rfl ho' (fun e => hf (e ▸ hm')) g hg hg'
    · intro n' r' hn' ho' hg'
      rcases h.owns n' r' hn' ho' with ⟨p, hp, rfl, r0, hpr, ho0⟩ | h1
      · have := (h.olds p hp).2
        rw [this] at hg'
        exact hI.dis n p.1 _ r0 hroot hpr rfl ho0 (fun e => hn p hp e.symm) g hg hg'
      · rw [h1] at hg'; cases hg'
  · have e' : updH H' nx (H n) nx = H n := by simp [updH]
    simp only [RootRel]
    rw [e']
    exact ⟨g, T, vs, hg, hmem, hv.mono (fun _ hb => hb) (fun _ _ => rfl) (fun k hk => updH_lt (H n) k hk) (fun k hk => .inl hk), hone⟩
  · intro p hp
    rcases List.mem_cons.1 hp with rfl | hp
    · exact .inr ⟨rfl, rfl⟩
    · exact .inl hp
  · intro m hm p hp
    rcases List.mem_cons.1 hp with rfl | hp
    · exact fun (e : n = m) => hf (e ▸ hm)
    · exact h.apart m hm p hp

theorem normCells_ok (hI : Inv C S H N s.slot s.root s.io a w) : ∀ {cs : List AV} {vs : List Value} {ms : List (Option (Nat × Ty))} {ren : List (Nat × Nat)} {rl : List (Nat × Option Root)} {nx : Nat} {H' : Nat → Loc} {cs' : List AV} {ren' : List (Nat × Nat)} {rl' : List (Nat × Option Root)} {nx' : Nat},
    Norm C S H s a w ren fz fl rl nx S' H' → VRels w S H N cs vs → normCells s fz ms cs ren rl nx = some (cs', ren', rl', nx') → ∃ H1, Norm C S H s a w ren' fz fl rl' nx' S' H1 ∧ VRels w S' H1 (fun n => n < nx') cs' vs ∧ nx ≤ nx' ∧ ∀ n, n < nx → H1 n = H' n
  | _, _, ms, ren, rl, nx, H', cs', ren', rl', nx', h, .nil, e => by
    simp only [normCells, Option.some.injEq, Prod.mk.injEq] at e
    obtain ⟨rfl, rfl, rfl, rfl⟩ := e
    exact ⟨H', h, .nil, Nat.le_refl _, fun _ _ => rfl⟩
  | _, _, ms, ren, rl, nx, H', cs', ren', rl', nx', h, .cons c v cs vs hv hvs, e => by
    have go : ∀ {d : AV} {ren2 : List (Nat × Nat)} {rl2 : List (Nat × Option Root)} {nx2 : Nat} {H2 : Nat → Loc}, Norm C S H s a w ren2 fz fl rl2 nx2 S' H2 → VRel w S' H2 (fun n => n < nx2) d v → nx ≤ nx2 → (∀ n, n < nx → H2 n = H' n) →
        (match normCells s fz (ms.drop 1) cs ren2 rl2 nx2 with | some (ds, r) => some (d :: ds, r) | none => none) = some (cs', ren', rl', nx') →
        ∃ H1, Norm C S H s a w ren' fz fl rl' nx' S' H1 ∧ VRels w S' H1 (fun n => n < nx') cs' (v :: vs) ∧ nx ≤ nx' ∧ ∀ n, n < nx → H1 n = H' n := by
      intro d ren2 rl2 nx2 H2 h2 hd hle hH he
      split at he
      · rename_i ds r hn
        obtain ⟨r1, r2, r3⟩ := r
        simp only [Option.some.injEq, Prod.mk.injEq] at he
        obtain ⟨rfl, rfl, rfl, rfl⟩ := he
        obtain ⟨H1, h1, hv1, hle1, hH1⟩ := normCells_ok hI h2 hvs hn
        exact ⟨H1, h1, .cons _ _ _ _ (hd.mono (fun _ hb => hb) (fun _ _ => rfl) (fun n hn => hH1 n hn) (fun n hn => Nat.lt_of_lt_of_le hn hle1)) hv1, Nat.le_trans hle hle1, fun n hn => (hH1 n (Nat.lt_of_lt_of_le hn hle)).trans (hH n hn)⟩
      · cases he
    unfold normCells at e
    simp only at e
    split at e
    · rename_i n o
      cases hf : memB n fz with
      | true => rw [hf] at e; cases e
      | false =>
        rw [hf] at e
        simp only [cond_false] at e
        split at e
        · rename_i p hp
          obtain ⟨hpm, rfl⟩ := find_some hp
          have := h.olds p hpm
          exact go h (rename_ref h.up this.1 this.2 hv) (Nat.le_refl _) (fun _ _ => rfl) e
        · rename_i hp
          split at e
          · rename_i r hr
            have h2 := h.old hI hr (find_none hp) (memB_false hf)
            exact go h2 (rename_ref h2.up (Nat.lt_succ_self _) (by simp [updH]) hv) (Nat.le_succ _) (fun n hn => updH_lt _ n hn) e
          · cases e
    · have hv0 := hv.nils_inv
      split at e
      · rename_i e1 t _
        have h2 := h.newRow e1 t
        refine go h2 ?_ (Nat.le_succ _) (fun n hn => updH_lt _ n hn) e
        rw [hv0]
        have := VRel.ref (w := w) (S := S') (H := updH H' nx ⟨none, 0, t.cells, 0⟩) (N := fun n => n < nx + 1) nx (Nat.lt_succ_self _)
        have e' : updH H' nx ⟨none, 0, t.cells, 0⟩ nx = ⟨none, 0, t.cells, 0⟩ := by simp [updH]
        rw [e'] at this
        exact this
      · exact go h (by rw [hv0]; exact .nils) (Nat.le_refl _) (fun _ _ => rfl) e
    · cases hpl : plainB c with
      | false => rw [hpl] at e; cases e
      | true =>
        rw [hpl] at e
        exact go h (hv.plain hpl h.up) (Nat.le_refl _) (fun _ _ => rfl) e

theorem normCaps_ok (hI : Inv C S H N s.slot s.root s.io a w) : ∀ {cs : List AV} {vs : List Value} {ms : List (List (Option (Nat × Ty)))} {ren : List (Nat × Nat)} {rl : List (Nat × Option Root)} {nx : Nat} {H' : Nat → Loc} {cs' : List AV} {ren' : List (Nat × Nat)} {rl' : List (Nat × Option Root)} {nx' : Nat},
    Norm C S H s a w ren fz fl rl nx S' H' → VRels w S H N cs vs → normCaps s fz ms cs ren rl nx = some (cs', ren', rl', nx') → ∃ H1, Norm C S H s a w ren' fz fl rl' nx' S' H1 ∧ VRels w S' H1 (fun n => n < nx') cs' vs ∧ nx ≤ nx' ∧ ∀ n, n < nx → H1 n = H' n
  | _, _, ms, ren, rl, nx, H', cs', ren', rl', nx', h, .nil, e => by
    simp only [normCaps, Option.some.injEq, Prod.mk.injEq] at e
    obtain ⟨rfl, rfl, rfl, rfl⟩ := e
    exact ⟨H', h, .nil, Nat.le_refl _, fun _ _ => rfl⟩
  | _, _, ms, ren, rl, nx, H', cs', ren', rl', nx', h, .cons c v cs vs hv hvs, e => by
    have go : ∀ {d : AV} {ren2 : List (Nat × Nat)} {rl2 : List (Nat × Option Root)} {nx2 : Nat} {H2 : Nat → Loc}, Norm C S H s a w ren2 fz fl rl2 nx2 S' H2 → VRel w S' H2 (fun n => n < nx2) d v → nx ≤ nx2 → (∀ n, n < nx → H2 n = H' n) →
        (match normCaps s fz (ms.drop 1) cs ren2 rl2 nx2 with | some (ds, r) => some (d :: ds, r) | none => none) = some (cs', ren', rl', nx') →
        ∃ H1, Norm C S H s a w ren' fz fl rl' nx' S' H1 ∧ VRels w S' H1 (fun n => n < nx') cs' (v :: vs) ∧ nx ≤ nx' ∧ ∀ n, n < nx → H1 n = H' n := by
      intro d ren2 rl2 nx2 H2 h2 hd hle hH he
      split at he
      · rename_i ds r hn
        obtain ⟨r1, r2, r3⟩ := r
        simp only [Option.some.injEq, Prod.mk.injEq] at he
        obtain ⟨rfl, rfl, rfl, rfl⟩ := he
        obtain ⟨H1, h1, hv1, hle1, hH1⟩ := normCaps_ok hI h2 hvs hn
        exact ⟨H1, h1, .cons _ _ _ _ (hd.mono (fun _ hb => hb) (fun _ _ => rfl) (fun n hn => hH1 n hn) (fun n hn => Nat.lt_of_lt_of_le hn hle1)) hv1, Nat.le_trans hle hle1, fun n hn => (hH1 n (Nat.lt_of_lt_of_le hn hle)).trans (hH n hn)⟩
      · cases he
    unfold normCaps at e
    simp only at e
    split at e
    · rename_i n o
      cases hf : memB n fz with
      | true => rw [hf] at e; cases e
      | false =>
        rw [hf] at e
        simp only [cond_false] at e
        split at e
        · rename_i p hp
          obtain ⟨hpm, rfl⟩ := find_some hp
          have := h.olds p hpm
          exact go h (rename_ref h.up this.1 this.2 hv) (Nat.le_refl _) (fun _ _ => rfl) e
        · rename_i hp
          split at e
          · rename_i r hr
            have h2 := h.old hI hr (find_none hp) (memB_false hf)
            exact go h2 (rename_ref h2.up (Nat.lt_succ_self _) (by simp [updH]) hv) (Nat.le_succ _) (fun n hn => updH_lt _ n hn) e
          · cases e
    · rename_i n o
      cases hf : memB n fz with
      | true => rw [hf] at e; cases e
      | false =>
        rw [hf] at e
        simp only [cond_false] at e
        split at e
        · rename_i p hp
          obtain ⟨hpm, rfl⟩ := find_some hp
          have := h.olds p hpm
          exact go h (rename_pc this.1 this.2 hv) (Nat.le_refl _) (fun _ _ => rfl) e
        · split at e
          · rename_i ds hroot
            split at e
            · rename_i ds' ren2 rt2 nx2 hnc
              cases hany : ren2.any (fun p => Nat.beq p.1 n) with
              | true => rw [hany] at e; cases e
              | false =>
                rw [hany] at e
                simp only [cond_false] at e
                have hrr : CellRel w S H N ds (H n) := hI.roots n _ hroot
                obtain ⟨g, T, us, hg, hmem, hus, hone⟩ := hrr
                obtain ⟨H1, h1, hv1, hle, hH1⟩ := normCells_ok hI h hus hnc
                have hnr : ∀ p ∈ ren2, p.1 ≠ n := by
                  intro p hp e
                  have := (List.any_eq_false.1 hany) p hp
                  rw [e] at this
                  simp at this
                have h2 := h1.cellRoot hI hroot hnr (memB_false hf) hg hmem hv1 hone
                exact go h2 (rename_pc (Nat.lt_succ_self _) (by simp [updH]) hv) (Nat.le_succ_of_le hle) (fun n hn => (updH_lt _ n (Nat.lt_of_lt_of_le hn hle)).trans (hH1 n hn)) e
            · cases e
          · cases e
    · cases hpl : plainB c with
      | false => rw [hpl] at e; cases e
      | true =>
        rw [hpl] at e
        exact go h (hv.plain hpl h.up) (Nat.le_refl _) (fun _ _ => rfl) e

/-- A name for a slot's root. -/
theorem norm_named (hI : Inv C S H N s.slot s.root s.io a w) {ks : List (Nat × KMode)} {k n : Nat} {mk : Nat → AV} (hmk : ∀ (S2 : Nat → Prop) (H2 : Nat → Loc) (N2 : Nat → Prop) (n' : Nat), (∀ b, S b → S2 b) → N2 n' → H2 n' = H n → VRel w S2 H2 N2 (mk n') (C.val a k))
    (ih : ∀ ren fz fl rl nx S' H', Norm C S H s a w ren fz fl rl nx S' H' → Good C (normGo s ks ren fz fl rl nx) a w) (h : Norm C S H s a w ren fz fl rl nx S' H') :
    Good C (bif memB n fz then normGo s ks ren fz ((k, .undef) :: fl) rl nx else
      match ren.find? (fun p => Nat.beq p.1 n) with
      | some p => normGo s ks ren fz ((k, mk p.2) :: fl) rl nx
      | none => match cleanRoot (s.root n) with
        | some r => normGo s ks ((n, nx) :: ren) fz ((k, mk nx) :: fl) ((nx, some r) :: rl) (nx + 1)
        | none => normGo s ks ren fz ((k, .undef) :: fl) rl nx) a w := by
  cases hf : memB n fz with
  | true => exact ih _ _ _ _ _ _ _ (h.slot (.undef _))
  | false =>
    simp only [cond_false]
    split
    · rename_i p hp
      obtain ⟨hpm, rfl⟩ := find_some hp
      have := h.olds p hpm
      exact ih _ _ _ _ _ _ _ (h.slot (hmk S' H' _ p.2 h.up this.1 this.2))
    · rename_i hp
      split
      · rename_i r hr
        have h2 := h.old hI hr (find_none hp) (memB_false hf)
        exact ih _ _ _ _ _ _ _ (h2.slot (hmk _ _ _ nx h2.up (Nat.lt_succ_self _) (by simp [updH])))
      · exact ih _ _ _ _ _ _ _ (h.slot (.undef _))

theorem normGo_good (hI : Inv C S H N s.slot s.root s.io a w) : ∀ (ks : List (Nat × KMode)) (ren : List (Nat × Nat)) (fz : List Nat) (fl : List (Nat × AV)) (rl : List (Nat × Option Root)) (nx : Nat) (S' : Nat → Prop) (H' : Nat → Loc),
    Norm C S H s a w ren fz fl rl nx S' H' → Good C (normGo s ks ren fz fl rl nx) a w
  | [], ren, fz, fl, rl, nx, S', H', h => h.done
  | (k, m) :: ks, ren, fz, fl, rl, nx, S', H', h => by
    have ih := normGo_good hI ks
    have hs := hI.slots k
    unfold normGo
    simp only
    split
    · rename_i n o hv
      rw [hv] at hs
      split
      · rename_i e t
        split
        · rename_i r hr
          split
          · rename_i l hl
            cases hren : ren.any (fun p => Nat.beq p.1 n) with
            | true => exact ih _ _ _ _ _ _ _ (h.slot (.undef _))
            | false =>
              simp only [cond_false]
              have hnr : ∀ p ∈ ren, p.1 ≠ n := by
                intro p hp e
                have := (List.any_eq_false.1 hren) p hp
                rw [e] at this
                simp at this
              let S2 : Nat → Prop := fun b => S' b ∨ (r.own = true ∧ (H n).g = some b)
              have hrd : rd1 s.root (.sl e t) (.ref n o) = some (view o l) := by simp [rd1, hr, hl]
              have hRd := rd1_rel (S' := S2) hI.roots (fun b hb => .inl (h.up b hb)) (.sl e t) hs hrd (by
                intro m hm r' hr' ho g hg
                simp only [AV.refs, List.mem_singleton] at hm
                subst hm
                rw [hr] at hr'
                cases hr'
                exact .inr ⟨ho, hg⟩)
              have hinv := h.inv.widen (S' := S2) (fun b hb => .inl hb) (by
                intro n' r' hn' ho' g hg
                rintro (h1 | ⟨ho, h1⟩)
                · exact (h.inv.mine n' r' hn' ho' g hg).1 h1
                · rcases h.owns n' r' hn' ho' with ⟨p, hp, rfl, hpr⟩ | h2
                  · obtain ⟨r0, hpr, ho0⟩ := hpr
                    rw [(h.olds p hp).2] at hg
                    exact hI.dis p.1 n r0 r hpr hr ho0 ho (hnr p hp) g hg h1
                  · rw [h2] at hg; cases hg) (by
                rintro b (hb | ⟨_, hb⟩)
                · exact h.inv.sub b hb
                · exact hI.lt n r hr b hb) (by
                rintro b (hb | ⟨ho, hb⟩)
                · exact h.inv.low b hb
                · exact .inr (hI.mine n r hr ho b hb).2)
              refine ih ren (n :: fz) _ rl nx S2 H' ?_
              refine ⟨hinv, ?_, h.keys, h.nodup, fun b hb => .inl (h.up b hb), h.olds, h.owns, ?_, ?_⟩
              · intro p hp
                rcases List.mem_cons.1 hp with rfl | hp
                · exact .val (.sl e t) (view o l) [_] hRd
                · exact (h.slots p hp).mono (fun b hb => .inl hb) (fun _ _ => rfl) (fun _ _ => rfl) (fun _ hn => hn)
              · rintro b (hb | ⟨ho, hb⟩)
                · rcases h.low b hb with h1 | ⟨m, hm, h1⟩
                  · exact .inl h1
                  · exact .inr ⟨m, List.mem_cons_of_mem _ hm, h1⟩
                · exact .inr ⟨n, by simp, ⟨r, hr, ho⟩, hb⟩
              · intro m hm p hp
                rcases List.mem_cons.1 hm with rfl | hm
                · exact hnr p hp
                · exact h.apart m hm p hp
          · exact ih _ _ _ _ _ _ _ (h.slot (.undef _))
        · exact ih _ _ _ _ _ _ _ (h.slot (.undef _))
      · exact norm_named hI (mk := fun n' => .ref n' o) (fun S2 H2 N2 n' h1 h2 h3 => rename_ref h1 h2 h3 hs) ih h
    · rename_i hv
      rw [hv] at hs
      split
      · rename_i e t
        have hv0 := hs.nils_inv
        have h2 := h.newRow e t
        refine ih _ _ _ _ _ _ _ (h2.slot ?_)
        rw [hv0]
        have := VRel.ref (w := w) (S := S') (H := updH H' nx ⟨none, 0, t.cells, 0⟩) (N := fun n => n < nx + 1) nx (Nat.lt_succ_self _)
        have e' : updH H' nx ⟨none, 0, t.cells, 0⟩ nx = ⟨none, 0, t.cells, 0⟩ := by simp [updH]
        rw [e'] at this
        exact this
      · rename_i e t
        have hv0 := hs.nils_inv
        refine ih _ _ _ _ _ _ _ (h.slot ?_)
        rw [hv0]
        exact .val (.sl e t) [] [_] ⟨none, 0, rfl, Nat.le_refl _, .inl rfl⟩
      · exact ih _ _ _ _ _ _ _ (h.slot (by rw [hs.nils_inv]; exact .nils))
    · rename_i n o hv
      rw [hv] at hs
      cases hfm : memB n fz with
      | true => exact ih _ _ _ _ _ _ _ (h.slot (.undef _))
      | false =>
        simp only [cond_false]
        split
        · rename_i p hp
          obtain ⟨hpm, rfl⟩ := find_some hp
          have := h.olds p hpm
          exact ih _ _ _ _ _ _ _ (h.slot (rename_pc this.1 this.2 hs))
        · split
          · rename_i cs hroot
            split
            · rename_i cs' ren' rt' nx' hnc
              cases hany : ren'.any (fun p => Nat.beq p.1 n) with
              | true => exact ih _ _ _ _ _ _ _ (h.slot (.undef _))
              | false =>
                simp only [cond_false]
                have hrr : CellRel w S H N cs (H n) := hI.roots n _ hroot
                obtain ⟨g, T, vs, hg, hmem, hvs, hone⟩ := hrr
                obtain ⟨H1, h1, hv1, hle, hH1⟩ := normCells_ok hI h hvs hnc
                have hnr : ∀ p ∈ ren', p.1 ≠ n := by
                  intro p hp e
                  have := (List.any_eq_false.1 hany) p hp
                  rw [e] at this
                  simp at this
                have h2 := h1.cellRoot hI hroot hnr (memB_false hfm) hg hmem hv1 hone
                refine ih _ _ _ _ _ _ _ (h2.slot ?_)
                exact rename_pc (Nat.lt_succ_self _) (by simp [updH]) hs
            · exact ih _ _ _ _ _ _ _ (h.slot (.undef _))
          · exact ih _ _ _ _ _ _ _ (h.slot (.undef _))
    · rename_i cs hv
      rw [hv] at hs
      split
      · rename_i cs' ren' rt' nx' hnc
        obtain ⟨vs, hvs, hone, e⟩ := hs.agg_inv'
        obtain ⟨H1, h1, hv1, hle, hH1⟩ := normCells_ok hI h hvs hnc
        refine ih _ _ _ _ _ _ _ (h1.slot ?_)
        rw [e]
        exact .agg cs' vs hv1 hone
      · exact ih _ _ _ _ _ _ _ (h.slot (.undef _))
    · rename_i n hv
      rw [hv] at hs
      exact norm_named hI (mk := fun n' => .pa n') (fun S2 H2 N2 n' h1 h2 h3 => rename_pa h2 h3 hs) ih h
    · rename_i t x hv
      rw [hv] at hs
      exact ih _ _ _ _ _ _ _ (h.slot (hs.plain rfl h.up))
    · rename_i cs o hv
      rw [hv] at hs
      cases hp : cs.all plainB with
      | false => exact ih _ _ _ _ _ _ _ (h.slot (.undef _))
      | true =>
        simp only [cond_true]
        refine ih _ _ _ _ _ _ _ (h.slot ?_)
        obtain ⟨g, p, vs, e, h1, h2, h3, h4⟩ := hs.pv_inv
        rw [e]
        exact .pv cs o g p vs (h.up g h1) (h2.plain h.up hp) h3 h4
    · rename_i f cs hv
      rw [hv] at hs
      split
      · rename_i cs' ren' rt' nx' hnc
        obtain ⟨us, e, hus⟩ := hs.fn_inv
        obtain ⟨H1, h1, hv1, hle, hH1⟩ := normCaps_ok hI h hus hnc
        refine ih _ _ _ _ _ _ _ (h1.slot ?_)
        rw [e]
        exact .fn f cs' us hv1
      · exact ih _ _ _ _ _ _ _ (h.slot (.undef _))
    · exact ih _ _ _ _ _ _ _ (h.slot (.undef _))
end
end Go.AM
end

noncomputable section
namespace Go.AM
open Go.RowKit

section
variable {C : Ctx} {E : Env} {R : Type} {r : R}

theorem normIo_eq (s : St) : ∀ (l : List Nat) (i : Nat), (∀ p ∈ (normIo s l i).1, i ≤ p.2 ∧ l[p.2 - i]? = some p.1) ∧ (∀ p ∈ (normIo s l i).2, i ≤ p.1 ∧ p.1 < i + l.length ∧ ∀ n, l[p.1 - i]? = some n → p.2 = cleanRoot (s.root n)) ∧
    ((normIo s l i).2.map (·.1)).Nodup ∧ (∀ n ∈ l, ∃ p ∈ (normIo s l i).1, p.1 = n)
  | [], i => by
    refine ⟨?_, ?_, List.nodup_nil, ?_⟩
    · intro p hp; cases hp
    · intro p hp; cases hp
    · intro n hn; cases hn
  | n :: l, i => by
    obtain ⟨h1, h2, h3, h4⟩ := normIo_eq s l (i + 1)
    simp only [normIo]
    refine ⟨?_, ?_, ?_, ?_⟩
    · intro p hp
      rcases List.mem_cons.1 hp with rfl | hp
      · exact ⟨Nat.le_refl _, by simp⟩
      · have := h1 p hp
        refine ⟨by omega, ?_⟩
        have e : p.2 - i = (p.2 - (i + 1)) + 1 := by omega
        rw [e, List.getElem?_cons_succ]
        exact this.2
    · intro p hp
      simp only [List.length_cons]
      rcases List.mem_cons.1 hp with rfl | hp
      · refine ⟨Nat.le_refl _, by simp only; omega, ?_⟩
        intro m hm
        simp at hm
        rw [hm]
      · have := h2 p hp
        refine ⟨by omega, by omega, ?_⟩
        intro m hm
        have e : p.1 - i = (p.1 - (i + 1)) + 1 := by omega
        rw [e, List.getElem?_cons_succ] at hm
        exact this.2.2 m hm
    · simp only [List.map_cons, List.nodup_cons]
      refine ⟨?_, h3⟩
      intro hm
      obtain ⟨p, hp, e⟩ := List.mem_map.1 hm
      have := (h2 p hp).1
      omega
    · intro m hm
      rcases List.mem_cons.1 hm with rfl | hm
      · exact ⟨(m, i), by simp, rfl⟩
      · obtain ⟨p, hp, e⟩ := h4 m hm
        exact ⟨p, List.mem_cons_of_mem _ hp, e⟩

theorem range_map_get (l : List Nat) : (List.range l.length).map (fun i => l.getD i 0) = l := by
  apply List.ext_getElem
  · simp
  · intro i h1 h2
    simp at h1
    simp [h1]

theorem normSt_good {s : St} {a : Act} {w : World} (keep : List (Nat × KMode)) (hg : Good C s a w) : Good C (normSt keep s) a w := by
  obtain ⟨S, H, N, hI, hN⟩ := hg
  unfold normSt
  obtain ⟨h1, h2, h3, h4⟩ := normIo_eq s s.io 0
  let H' : Nat → Loc := fun i => H (s.io.getD i 0)
  have hnd' : ((normIo s s.io 0).2.reverse.map (·.1)).Nodup := by
    rw [List.map_reverse]
    unfold List.Nodup at *
    rw [List.pairwise_reverse]
    exact h3.imp (fun h e => h e.symm)
  -- a root of the new state is one of the old
  have hroot : ∀ n' r', look none (normIo s s.io 0).2.reverse n' = some r' → n' < s.io.length ∧ ∃ n, s.io[n']? = some n ∧ s.io.getD n' 0 = n ∧ cleanRoot (s.root n) = some r' := by
    intro n' r' h
    rcases look_mem (d := (none : Option Root)) (l := (normIo s s.io 0).2.reverse) (n := n') with e | e
    · rw [e] at h; cases h
    · rw [h] at e
      have := h2 _ (List.mem_reverse.1 e)
      have hlt : n' < s.io.length := by have := this.2.1; simpa using this
      refine ⟨hlt, s.io[n'], List.getElem?_eq_getElem hlt, by rw [List.getD_eq_getElem?_getD, List.getElem?_eq_getElem hlt]; rfl, ?_⟩
      have := this.2.2 s.io[n'] (by simp [hlt])
      exact this.symm
  have hne : ∀ (i j ni nj : Nat), s.io[i]? = some ni → s.io[j]? = some nj → i ≠ j → ni ≠ nj := by
    intro i j ni nj hi hj hij e
    subst e
    have hi' := (List.getElem?_eq_some_iff.1 hi)
    have hj' := (List.getElem?_eq_some_iff.1 hj)
    obtain ⟨hi1, hi2⟩ := hi'
    obtain ⟨hj1, hj2⟩ := hj'
    have := (List.getElem_inj (h₀ := hi1) (h₁ := hj1) hI.iond).1 (hi2.trans hj2.symm)
    exact hij this
  have hInv : Inv C S H' (fun n => n < s.io.length) (fun _ => .undef) (look none (normIo s s.io 0).2.reverse) (List.range s.io.length) a w := by
    constructor
    · exact fun i => .undef _
    · intro n' r' h
      obtain ⟨hlt, n, hn, hd, hc⟩ := hroot n' r' h
      obtain ⟨hr, hcl⟩ := clean_some hc
      exact (hI.roots n r' hr).rename hcl (fun _ hb => hb) (by show H (s.io.getD n' 0) = H n; rw [hd])
    · exact fun n' r' h => (hroot n' r' h).1
    · intro n' r' h ho g hg
      obtain ⟨hlt, n, hn, hd, hc⟩ := hroot n' r' h
      have hg' : (H n).g = some g := by rw [← hd]; exact hg
      exact hI.mine n r' (clean_some hc).1 ho g hg'
    · intro n' r' h g hg
      obtain ⟨hlt, n, hn, hd, hc⟩ := hroot n' r' h
      have hg' : (H n).g = some g := by rw [← hd]; exact hg
      exact hI.lt n r' (clean_some hc).1 g hg'
    · intro n' m' r1 r2 e1 e2 o1 o2 hnm g hg
      obtain ⟨hlt1, n, hn, hd1, hc1⟩ := hroot n' r1 e1
      obtain ⟨hlt2, m, hm, hd2, hc2⟩ := hroot m' r2 e2
      have hg' : (H n).g = some g := by rw [← hd1]; exact hg
      show (H (s.io.getD m' 0)).g ≠ some g
      rw [hd2]
      exact hI.dis n m r1 r2 (clean_some hc1).1 (clean_some hc2).1 o1 o2 (hne n' m' n m hn hm hnm) g hg'
    · exact hI.sub
    · exact hI.sup
    · exact hI.low
    · exact hI.frame
    · exact hI.size
    · exact hI.def0
    · rw [← hI.ios]
      show (List.range s.io.length).map (fun n => (H (s.io.getD n 0)).hdr) = _
      have := congrArg (List.map fun n => (H n).hdr) (range_map_get s.io)
      rw [List.map_map] at this
      exact this
    · exact fun n hn => List.mem_range.1 hn
    · exact List.nodup_range
  refine normGo_good (S := S) (H := H) (N := N) hI keep _ _ _ _ _ S H' ⟨hInv, ?_, ?_, hnd', fun _ hb => hb, ?_, ?_, fun b hb => .inl hb, ?_⟩
  · intro p hp; cases hp
  · intro p hp
    have := h2 p (List.mem_reverse.1 hp)
    simpa using this.2.1
  · intro p hp
    have := h1 p hp
    simp only [Nat.sub_zero] at this
    have hlt := (List.getElem?_eq_some_iff.1 this.2).1
    refine ⟨hlt, ?_⟩
    show H (s.io.getD p.2 0) = H p.1
    rw [List.getD_eq_getElem?_getD, this.2]
    rfl
  · intro n' r' h ho
    obtain ⟨hlt, n, hn, hd, hc⟩ := hroot n' r' h
    obtain ⟨p, hp, e⟩ := h4 n (List.mem_of_getElem? hn)
    refine .inl ⟨p, hp, ?_, r', by rw [e]; exact (clean_some hc).1, ho⟩
    have := (h1 p hp).2
    simp only [Nat.sub_zero] at this
    rw [e] at this
    by_cases hpn : p.2 = n'
    · exact hpn
    · exact absurd rfl (hne _ _ _ _ this hn hpn)
  · intro n hn; cases hn

/-! ### code -/
def exOf : AExit → Exit
  | .normal => .normal
  | .exit id => .exit id
  | .ret => .ret

/-- What is known of the text's loops. -/
def LoopsOk (E : Env) (J : Inl R) (L : Nat → St → (AExit → St → Option R) → Option R) (code : Code) : Prop :=
  ∀ c an, findLoop (firstRegion c) code = some c → E.ann (firstRegion c) = some an → ∀ s K r, L (firstRegion c) s K = some r → ∃ n, aloop (aexec E J L c) (normSt an.keep) (normSt an.out) K n s = some r

def loopsIn : Code → List Code
  | .seq a b => loopsIn a ++ loopsIn b
  | .cond _ a b => loopsIn a ++ loopsIn b
  | .block _ c => loopsIn c
  | .loop c => c :: loopsIn c
  | _ => []

theorem loop_sound {P : Program} {c : Code} {body : St → (AExit → St → Option R) → Option R} {nrm out : St → St} {K : AExit → St → Option R} {Q : Exit → Act → World → Prop} {G : St → Act → World → Prop}
    (hnrm : ∀ s a w, G s a w → G (nrm s) a w) (hout : ∀ s a w, G s a w → G (out s) a w)
    (hbody : ∀ s K' a w Q', body s K' = some r → G s a w → (∀ e s' a' w', K' e s' = some r → G s' a' w' → Q' (exOf e) a' w') → c.wp P Q' a w)
    (hK : ∀ e s' a' w', K e s' = some r → G s' a' w' → e ≠ .normal → Q (exOf e) a' w') :
    ∀ (n : Nat) (s : St) (a : Act) (w : World), aloop body nrm out K n s = some r → G s a w → (Code.loop c).wp P Q a w := by
  intro n s a w h hg b k cs
  have key : ∀ n s a w, aloop body nrm out K n s = some r → G s a w → ∃ e a' w', Q e a' w' ∧ Arrives P (lone (b.at a (.code c :: .inLoop c :: k)) cs w) b k cs e a' w' := by
    intro n
    induction n with
    | zero => intro s a w h; cases h
    | succ n ih =>
      intro s a w h hg
      let Q1 : Exit → Act → World → Prop := fun e a' w' => match e with
        | .normal => ∃ s', aloop body nrm out K n s' = some r ∧ G s' a' w'
        | e => Q e a' w'
      have hwp := hbody s _ a w Q1 h hg (by
        intro e s' a' w' he hg'
        cases e with
        | normal => exact ⟨nrm s', he, hnrm s' a' w' hg'⟩
        | exit id => exact hK (.exit id) (out s') a' w' he (hout s' a' w' hg') (by simp)
        | ret => exact hK .ret (out s') a' w' he (hout s' a' w' hg') (by simp))
      obtain ⟨e, a₁, w₁, hq, harr⟩ := hwp b (.inLoop c :: k) cs
      cases e with
      | normal =>
        obtain ⟨s', h1, h2⟩ := hq
        obtain ⟨e₂, a₂, w₂, hq₂, harr₂⟩ := ih s' a₁ w₁ h1 h2
        exact ⟨e₂, a₂, w₂, hq₂, .of_steps (Steps.trans harr (.one step_inLoop)) harr₂⟩
      | exit id => exact ⟨_, a₁, w₁, hq, .pass (x := .inLoop c) rfl (fun _ _ => .inl (by simp)) harr⟩
      | goto l => exact ⟨_, a₁, w₁, hq, .pass (x := .inLoop c) rfl (fun _ _ => .inl (by simp)) harr⟩
      | ret => exact ⟨_, a₁, w₁, hq, .pass (x := .inLoop c) rfl (fun _ _ => .inl (by simp)) harr⟩
      | panic ch => exact ⟨_, a₁, w₁, hq, .pass (x := .inLoop c) rfl (fun _ _ => .inl (by simp)) harr⟩
      | outgrown => exact ⟨_, a₁, w₁, hq, .pass (x := .inLoop c) rfl (fun _ _ => .inl (by simp)) harr⟩
  obtain ⟨e, a', w', hq, harr⟩ := key n s a w h hg
  exact ⟨e, a', w', hq, .of_steps (.one step_loop) harr⟩

theorem bool_inv' {S : Nat → Prop} {H : Nat → Loc} {N : Nat → Prop} {s : St} {a : Act} {w : World} (hI : Inv C S H N s.slot s.root s.io a w) {c : Operand} {p : Bool} (h : s.ev c = .val .bool p) : a.eval c = .bool p := by
  have := hI.evOk c
  rw [ev_evF] at h
  rw [h] at this
  exact this.bool_inv
end
end Go.AM
end

noncomputable section
namespace Go.AM

/-! ### what an operation's outcome hangs on -/
section
variable {lk lk' : Lk}
theorem rd1_congr {t : Ty} {c : AV} (h : ∀ n ∈ c.refs, lk n = lk' n) : rd1 lk t c = rd1 lk' t c := by
  cases c with
  | ref n v =>
    have hn := h n (by simp [AV.refs])
    cases t <;> simp [rd1, hn]
  | val t' x => cases t <;> cases t' <;> rfl
  | _ => cases t <;> rfl
theorem refsIn_cons' (c : AV) (cs : List AV) : refsIn (c :: cs) = c.refs ++ refsIn cs := by simp [refsIn]
theorem rdMany_congr {α : Type} {f g : List AV → Option (α × List AV)} (hf : ∀ cs, (∀ n ∈ refsIn cs, lk n = lk' n) → f cs = g cs ∧ ∀ x r, f cs = some (x, r) → ∀ n ∈ refsIn r, n ∈ refsIn cs) :
    ∀ (m : Nat) (cs : List AV), (∀ n ∈ refsIn cs, lk n = lk' n) → rdMany f m cs = rdMany g m cs ∧ ∀ x r, rdMany f m cs = some (x, r) → ∀ n ∈ refsIn r, n ∈ refsIn cs
  | 0, cs, h => ⟨rfl, fun x r e n hn => by simp only [rdMany, Option.some.injEq, Prod.mk.injEq] at e; rw [e.2]; exact hn⟩
  | m + 1, cs, h => by
    obtain ⟨h1, h2⟩ := hf cs h
    simp only [rdMany, ← h1]
    cases hc : f cs with
    | none => exact ⟨rfl, fun x r e => by cases e⟩
    | some p =>
      obtain ⟨x, cs'⟩ := p
      have hsub := h2 x cs' hc
      obtain ⟨h3, h4⟩ := rdMany_congr hf m cs' (fun n hn => h n (hsub n hn))
      simp only [← h3]
      refine ⟨trivial, ?_⟩
      intro y r e
      cases hc' : rdMany f m cs' with
      | none => rw [hc'] at e; cases e
      | some q =>
        rw [hc'] at e
        cases e
        exact fun n hn => hsub n (h4 _ _ hc' n hn)
theorem rdCells_congr : ∀ (t : Ty) (cs : List AV), (∀ n ∈ refsIn cs, lk n = lk' n) → rdCells lk t cs = rdCells lk' t cs ∧ ∀ x r, rdCells lk t cs = some (x, r) → ∀ n ∈ refsIn r, n ∈ refsIn cs
  | .unit, cs, h => ⟨rfl, fun x r e n hn => by simp only [rdCells, Option.some.injEq, Prod.mk.injEq] at e; rw [e.2]; exact hn⟩
  | .pair a b, cs, h => by
    obtain ⟨h1, h2⟩ := rdCells_congr a cs h
    simp only [rdCells, ← h1]
    cases hc : rdCells lk a cs with
    | none => exact ⟨rfl, fun x r e => by cases e⟩
    | some p =>
      obtain ⟨x, cs'⟩ := p
      have hsub := h2 x cs' hc
      obtain ⟨h3, h4⟩ := rdCells_congr b cs' (fun n hn => h n (hsub n hn))
      simp only [← h3]
      refine ⟨trivial, ?_⟩
      intro y r e
      cases hc' : rdCells lk b cs' with
      | none => rw [hc'] at e; cases e
      | some q =>
        rw [hc'] at e
        cases e
        exact fun n hn => hsub n (h4 _ _ hc' n hn)
  | .arr n t, cs, h => by
    simp only [rdCells]
    exact rdMany_congr (fun cs h => rdCells_congr t cs h) n cs h
  | .int k, [], h => ⟨rfl, fun x r e => by simp [rdCells] at e⟩
  | .bool, [], h => ⟨rfl, fun x r e => by simp [rdCells] at e⟩
  | .str, [], h => ⟨rfl, fun x r e => by simp [rdCells] at e⟩
  | .sl _ _, [], h => ⟨rfl, fun x r e => by simp [rdCells] at e⟩
  | .int k, c :: cs, h => one (.int k) c cs h (by simp only [rdCells]; cases rd1 lk (.int k) c <;> rfl) (by simp only [rdCells]; cases rd1 lk' (.int k) c <;> rfl)
  | .bool, c :: cs, h => one .bool c cs h (by simp only [rdCells]; cases rd1 lk .bool c <;> rfl) (by simp only [rdCells]; cases rd1 lk' .bool c <;> rfl)
  | .str, c :: cs, h => one .str c cs h (by simp only [rdCells]; cases rd1 lk .str c <;> rfl) (by simp only [rdCells]; cases rd1 lk' .str c <;> rfl)
  | .sl e t, c :: cs, h => one (.sl e t) c cs h (by simp only [rdCells]; cases rd1 lk (.sl e t) c <;> rfl) (by simp only [rdCells]; cases rd1 lk' (.sl e t) c <;> rfl)
where
  one (t : Ty) (c : AV) (cs : List AV) (h : ∀ n ∈ refsIn (c :: cs), lk n = lk' n) (e1 : rdCells lk t (c :: cs) = match rd1 lk t c with | some x => some (x, cs) | none => none)
      (e2 : rdCells lk' t (c :: cs) = match rd1 lk' t c with | some x => some (x, cs) | none => none) : rdCells lk t (c :: cs) = rdCells lk' t (c :: cs) ∧ ∀ x r, rdCells lk t (c :: cs) = some (x, r) → ∀ n ∈ refsIn r, n ∈ refsIn (c :: cs) := by
    have hc : rd1 lk t c = rd1 lk' t c := rd1_congr (fun n hn => h n (by rw [refsIn_cons']; exact List.mem_append.2 (.inl hn)))
    rw [e1, e2, hc]
    refine ⟨rfl, ?_⟩
    intro x r e
    split at e
    · cases e
      exact fun n hn => by rw [refsIn_cons']; exact List.mem_append.2 (.inr hn)
    · cases e
theorem rdTV_congr {t : Ty} {v : AV} (h : ∀ n ∈ refsIn v.cells, lk n = lk' n) : rdTV lk t v = rdTV lk' t v := by
  have other : ∀ v : AV, (∀ n ∈ v.refs, lk n = lk' n) → rd1 lk t v = rd1 lk' t v := fun v h => rd1_congr h
  cases v with
  | val t' x => rfl
  | agg cs =>
    simp only [rdTV]
    rw [(rdCells_congr t cs h).1]
  | undef => exact other _ (by simp [AV.refs])
  | nils => exact other _ (by simp [AV.refs])
  | ref n v => exact other _ (fun m hm => h m (by simpa [refsIn, AV.cells] using hm))
  | tup vs => exact other _ (by simp [AV.refs])
  | pc n o => exact other _ (by simp [AV.refs])
  | pa n => exact other _ (by simp [AV.refs])
  | pe n i j => exact other _ (by simp [AV.refs])
  | pv cs o => exact other _ (by simp [AV.refs])
  | fn f cs => exact other _ (by simp [AV.refs])
  | nb s n => exact other _ (by simp [AV.refs])
  | pw t x => exact other _ (by simp [AV.refs])
theorem freeze_congr : ∀ (ns : List Nat), (∀ n ∈ ns, lk n = lk' n) → freeze lk ns = freeze lk' ns
  | [], _ => rfl
  | n :: ns, h => by
    simp only [freeze]
    rw [h n (by simp), freeze_congr ns (fun m hm => h m (List.mem_cons_of_mem _ hm))]
theorem lenAV_congr {x : AV} (h : ∀ n ∈ x.refs, lk n = lk' n) : lenAV lk x = lenAV lk' x := by
  cases x with
  | ref n v =>
    have hn := h n (by simp [AV.refs])
    cases v <;> simp [lenAV, hn]
  | val t x => cases t <;> rfl
  | _ => rfl
theorem sliceEff_congr {str : Bool} {esz : Option Nat} {x : AV} {lo hi : Option AV} (h : ∀ n ∈ x.refs, lk n = lk' n) : sliceEff lk str esz x lo hi = sliceEff lk' str esz x lo hi := by
  unfold sliceEff
  rw [lenAV_congr h]
  cases x with
  | ref n v =>
    have hn := h n (by simp [AV.refs])
    simp only [hn]
  | val t x => cases t <;> rfl
  | _ => simp only
theorem idxEff_congr {esz len : Option Nat} {x i : AV} (h : ∀ n ∈ x.names, lk n = lk' n) : idxEff lk esz len x i = idxEff lk' esz len x i := by
  unfold idxEff
  cases x with
  | ref n v =>
    have hn := h n (by simp [AV.names])
    simp only [hn]
  | pa n =>
    have hn := h n (by simp [AV.names])
    simp only [hn]
  | val t x => cases t <;> rfl
  | _ => simp only
/-- A load's log names all that it looked at. -/
theorem loadEff_congr {d : TypeDesc} {s : Nat} {a : AV} {g : Bool} {v : AV} {l : List Nat} (e : loadEff lk d s a = some (g, v, l)) (h : ∀ n ∈ l, lk n = lk' n) : loadEff lk' d s a = some (g, v, l) := by
  have key : ∀ n, (∀ g v l, loadEff lk d s a = some (g, v, l) → n ∈ l) → (lk n = lk' n) := fun n hn => h n (hn g v l e)
  cases a with
  | pc n o =>
    have hn : lk n = lk' n := by
      refine h n ?_
      unfold loadEff at e
      simp only at e
      split at e
      · split at e
        · cases e; simp
        · cases e
      · cases e
    simpa only [loadEff, hn] using e
  | pa n =>
    have hn : lk n = lk' n := by
      refine h n ?_
      unfold loadEff at e
      simp only at e
      split at e
      · split at e
        · cases e; simp
        · cases e
      · cases e
    simpa only [loadEff, hn] using e
  | pe n i j =>
    have hn : lk n = lk' n := by
      refine h n ?_
      unfold loadEff at e
      simp only at e
      split at e
      · split at e
        · cases e; simp
        · split at e
          · cases e; simp
          · cases e
      · split at e
        · cases e; simp
        · split at e
          · cases e; simp
          · cases e
      · cases e
    simpa only [loadEff, hn] using e
  | _ => simpa only [loadEff] using e
end
end Go.AM
end

noncomputable section
namespace Go.AM

theorem callEff_ev {E : Env} {lk : Lk} {base : Nat} {ev ev' : Operand → AV} {c : Call} (h : ∀ x ∈ c.args.toList, ev x = ev' x) : callEff E lk base ev c = callEff E lk base ev' c := by
  unfold callEff
  split
  · split <;> simp_all
  · rfl
theorem parts_ev {ev ev' : Operand → AV} {l : List (Nat × Operand)} (h : ∀ x ∈ l.map (·.2), ev x = ev' x) : (l.map fun (i, x) => (i, ev x)) = l.map fun (i, x) => (i, ev' x) := by
  apply List.map_congr_left
  rintro ⟨i, x⟩ hx
  simp only
  rw [h x (List.mem_map.2 ⟨(i, x), hx, rfl⟩)]

theorem opEff_ev {E : Env} {o : Oper} {base : Nat} {ev ev' : Operand → AV} {lk : Lk} (h : ∀ x ∈ o.op.operands.toList, ev x = ev' x) : opEff E o base ev lk = opEff E o base ev' lk := by
  revert h
  unfold opEff
  generalize o.op = op
  intro h
  cases op with
  | build t parts =>
    simp only [Op.operands] at h
    have := parts_ev (l := parts.toList) h
    simp only [this]
  | buildSlice t len parts =>
    simp only [Op.operands] at h
    have := parts_ev (l := parts.toList) h
    simp only [this]
  | slice t x lo hi mx =>
    have hx : ev x = ev' x := h x (by simp [Op.operands])
    have hlo : lo.map ev = lo.map ev' := by
      cases lo with
      | none => rfl
      | some y => simp only [Option.map_some]; rw [h y (by simp [Op.operands])]
    have hhi : hi.map ev = hi.map ev' := by
      cases hi with
      | none => rfl
      | some y => simp only [Option.map_some]; rw [h y (by simp [Op.operands])]
    cases mx with
    | none => simp only [hx, hlo, hhi]
    | some m => rfl
  | makeFunc fn first cap =>
    have : cap.toList.map ev = cap.toList.map ev' := List.map_congr_left (fun x hx => h x (by simp only [Op.operands, Array.toList_append]; exact List.mem_append.2 (.inr hx)))
    simp only [this]
  | call c =>
    simp only
    refine callEff_ev (fun x hx => h x ?_)
    simp only [Op.operands, Call.operands, Array.toList_append]
    exact List.mem_append.2 (.inr hx)
  | _ => simp_all [Op.operands]

theorem storeEff_congr {lk lk' : Lk} {s : Nat} {a v : AV} {ef : Eff} (e : storeEff lk s a v = some ef) (h : ∀ n ∈ ef.lg, lk n = lk' n) : storeEff lk' s a v = some ef := by
  cases a with
  | pc n off =>
    have hn : lk n = lk' n := by
      refine h n ?_
      unfold storeEff at e
      simp only at e
      split at e
      · split at e
        · split at e
          · cases e; simp
          · cases e
        · cases e
      · cases e
    simpa only [storeEff, hn] using e
  | pa n =>
    have hn : lk n = lk' n := by
      refine h n ?_
      unfold storeEff at e
      simp only at e
      split at e
      · split at e
        · split at e
          · split at e
            · cases e; simp
            · cases e
          · cases e
        · cases e
      · cases e
    simpa only [storeEff, hn] using e
  | pe n i j =>
    unfold storeEff at e ⊢
    simp only at e ⊢
    split at e
    · rename_i ee t l c hlk hc
      have hcells := refs_of_cells? hc
      have hlog : ∀ m, m = n ∨ m ∈ refsIn c → lk m = lk' m := by
        intro m hm
        refine h m ?_
        split at e
        · cases e
        · split at e
          · cases e
          · split at e
            · split at e
              · split at e
                · cases e; simpa using hm
                · cases e
              · split at e
                · cases e; simpa using hm
                · cases e
            · cases e
      have hn := hlog n (.inl rfl)
      rw [← hn, hlk, hc]
      simp only
      rw [← freeze_congr (lk := lk) (lk' := lk') (refsIn c) (fun m hm => hlog m (.inr hm))]
      rw [← rdTV_congr (lk := lk) (lk' := lk') (t := t) (v := v) (fun m hm => hlog m (.inr (by rw [hcells] at hm; exact hm)))]
      rw [← (rdCells_congr (lk := lk) (lk' := lk') t (setCells (cellsOf t (l.getD i t.dflt)) j c) (fun m hm => hlog m (.inr (refs_setCells (refs_cellsOf t _) m hm)))).1]
      exact e
    · cases e
  | _ => simpa only [storeEff] using e

theorem appEff_congr {E : Env} {lk lk' : Lk} {base t : Nat} {s x : AV} {ef : Eff} (e : appEff E lk base t s x = some ef) (h : ∀ n ∈ ef.lg, lk n = lk' n) : appEff E lk' base t s x = some ef := by
  unfold appEff at e ⊢
  split at e
  · rename_i ee hu
    split at e
    · rename_i T bytes hrow
      simp only at e ⊢
      have hx : ∀ m ∈ x.refs, lk m = lk' m := by
        intro m hm
        refine h m ?_
        have hm' : m ∈ refsIn [x] := by simpa [refsIn] using hm
        split at e
        · cases e
        · split at e
          · cases e; exact hm'
          · split at e
            · cases e
            · split at e
              · split at e
                · split at e
                  · cases e; exact List.mem_cons_of_mem _ hm'
                  · cases e
                · cases e
              · cases e
          · cases e
      rw [← rd1_congr (lk := lk) (lk' := lk') (t := .sl ee T) (c := x) hx]
      split at e
      · cases e
      · rename_i ys hys
        cases s with
        | nils => exact e
        | ref n v =>
          cases v with
          | none =>
            simp only at e ⊢
            split at e
            · cases e
            · rename_i hnot
              rw [if_neg hnot]
              have hn : lk n = lk' n := by
                refine h n ?_
                split at e
                · split at e
                  · split at e
                    · cases e; simp
                    · cases e
                  · cases e
                · cases e
              rw [← hn]
              exact e
          | some v => exact e
        | _ => exact e
    · cases e
  · cases e

theorem clearEff_congr {E : Env} {lk lk' : Lk} {t : Nat} {x : AV} {ef : Eff} (e : clearEff E lk t x = some ef) (h : ∀ n ∈ ef.lg, lk n = lk' n) : clearEff E lk' t x = some ef := by
  cases x with
  | ref n v =>
    have hn : lk n = lk' n := by
      refine h n ?_
      unfold clearEff at e
      simp only at e
      split at e
      · split at e
        · split at e
          · split at e
            · cases e; simp
            · cases e
          · cases e
        · cases e
      · cases e
    simpa only [clearEff, hn] using e
  | _ => simpa only [clearEff] using e
theorem opEff_lk {E : Env} {o : Oper} {base : Nat} {ev : Operand → AV} {lk lk' : Lk} {ef : Eff} (e : opEff E o base ev lk = some ef) (h : ∀ n ∈ ef.lg, lk n = lk' n) : opEff E o base ev lk' = some ef := by
  revert e
  unfold opEff
  generalize o.op = op
  intro e
  cases op with
  | slice t x lo hi mx =>
    cases mx with
    | some m => exact e
    | none =>
      simp only at e ⊢
      have hx : ∀ n ∈ (ev x).refs, lk n = lk' n := by
        intro n hn
        refine h n ?_
        split at e
        · cases e; simpa [refsIn] using hn
        · cases e
      rw [← sliceEff_congr (lk := lk) (lk' := lk') hx]
      exact e
  | indexAddr t x i =>
    simp only at e ⊢
    have hx : ∀ n ∈ (ev x).names, lk n = lk' n := by
      intro n hn
      refine h n ?_
      split at e
      · cases e; exact hn
      · cases e
    rw [← idxEff_congr (lk := lk) (lk' := lk') hx]
    exact e
  | load t a =>
    simp only at e ⊢
    split at e
    · rename_i d s b z hd hinf
      split at e
      · rename_i g v l hl
        cases e
        rw [loadEff_congr hl h]
      · cases e
    · cases e
  | store t a v =>
    simp only at e ⊢
    split at e
    · exact storeEff_congr e h
    · cases e
  | build t parts =>
    simp only at e ⊢
    split at e
    · exact e
    · split at e
      · split at e
        · rename_i hc
          rw [if_pos hc]
          split at e
          · rename_i cs hcs
            split at e
            · rename_i l hl
              split at e
              · rename_i href
                have hr : refsIn cs = [] := by simpa using href
                rw [(rdCells_congr (lk := lk) (lk' := lk') _ cs (fun n hn => by rw [hr] at hn; cases hn)).1] at hl
                rw [hl]
                simp only [href, if_true]
                exact e
              · cases e
            · cases e
          · cases e
        · cases e
      · cases e
    · exact e
  | buildSlice t len parts =>
    simp only at e ⊢
    split at e
    · split at e
      · split at e
        · rename_i hc
          rw [if_pos hc]
          split at e
          · rename_i cs hcs
            split at e
            · rename_i l rs hl hfz
              cases e
              rw [(rdCells_congr (lk := lk) (lk' := lk') _ cs h).1] at hl
              rw [freeze_congr (lk := lk) (lk' := lk') _ h] at hfz
              rw [hl, hfz]
            · cases e
          · cases e
        · cases e
      · cases e
    · cases e
  | call c =>
    simp only at e ⊢
    unfold callEff at e ⊢
    split at e
    · split at e
      · rename_i x t _ _ _
        have hx : ∀ n ∈ (ev x).refs, lk n = lk' n := by
          intro n hn
          refine h n ?_
          split at e
          · cases hb : E.lenOk t (isStrAV (ev x)) (isArrAV (ev x)) with
            | false => rw [hb] at e; cases e
            | true => rw [hb] at e; cases e; simpa [refsIn] using hn
          · cases e
        rw [← lenAV_congr (lk := lk) (lk' := lk') hx]
        exact e
      · rename_i s x t t' _ _ _
        cases hb : Nat.beq t t' with
        | false => rw [hb] at e; cases e
        | true =>
          rw [hb] at e
          simp only [cond_true] at e ⊢
          exact appEff_congr e h
      · exact clearEff_congr e h
      · exact e
      · exact e
      · cases e
    · cases e
  | _ => exact e
end Go.AM
end

noncomputable section
namespace Go.AM

abbrev Out := St × List Nat × List Nat
def outK : St → List Nat → List Nat → Option Out := fun s rd wr => some (s, rd, wr)
/-- The outcome of an operation with its guard. -/
def gOut (E : Env) (ops : Array Oper) (o : Oper) (base : Nat) (s : St) : Option Out := guarded E ops o base s outK

theorem step_bind {R : Type} {E : Env} {o : Oper} {base : Nat} {s : St} (K : St → List Nat → List Nat → Option R) : step E o base s K = (step E o base s outK).bind fun x => K x.1 x.2.1 x.2.2 := by
  unfold step
  cases dstOk E o with
  | false => rfl
  | true =>
    simp only [cond_true]
    cases callOf o.op with
    | some fa =>
      obtain ⟨f, as⟩ := fa
      simp only
      cases s.ev f with
      | fn fid caps =>
        simp only
        cases E.tbl fid with
        | none => rfl
        | some en =>
          simp only
          cases getArgs s.root en.ps (as.toList.map s.ev ++ caps) with
          | none => rfl
          | some args =>
            simp only
            split
            · cases en.fn args <;> rfl
            · rfl
      | _ => rfl
    | none =>
      simp only
      cases opEff E o base s.ev s.root with
      | none => rfl
      | some e =>
        simp only
        cases e.g <;> rfl
theorem guarded_bind {R : Type} {E : Env} {ops : Array Oper} {o : Oper} {base : Nat} {s : St} (K : St → List Nat → List Nat → Option R) : guarded E ops o base s K = (gOut E ops o base s).bind fun x => K x.1 x.2.1 x.2.2 := by
  unfold gOut guarded guardedG
  split
  · exact step_bind K
  · split
    · split
      · rename_i p _
        cases p <;> simp only [cond_true, cond_false]
        · split
          · rfl
          · exact step_bind K
        · split
          · exact step_bind K
          · rfl
      · rfl
      · rfl
    · rfl

theorem getArgs_congr {lk lk' : Lk} : ∀ (ps : List PTy) (vs : List AV), (∀ n ∈ refsIn (vs.flatMap AV.cells) ++ (ioNames ps vs ++ roRefs lk ps vs), lk n = lk' n) → getArgs lk ps vs = getArgs lk' ps vs ∧ roRefs lk ps vs = roRefs lk' ps vs
  | [], [], _ => ⟨rfl, rfl⟩
  | [], _ :: _, _ => ⟨rfl, rfl⟩
  | .ro t :: ps, [], _ => ⟨rfl, rfl⟩
  | .io _ t :: ps, [], _ => ⟨rfl, rfl⟩
  | .fnc t :: ps, [], _ => ⟨rfl, rfl⟩
  | .ptr t :: ps, [], _ => ⟨rfl, rfl⟩
  | .ro t :: ps, v :: vs, h => by
    have h1 : rdTV lk t v = rdTV lk' t v := rdTV_congr (fun n hn => h n (List.mem_append.2 (.inl (by simp only [List.flatMap_cons, refsIn, List.flatMap_append] at *; exact List.mem_append.2 (.inl hn)))))
    have h2 := getArgs_congr ps vs (fun n hn => h n (by
      have e : ioNames (.ro t :: ps) (v :: vs) = ioNames ps vs := by simp [ioNames]
      rw [e]
      simp only [roRefs]
      simp only [List.flatMap_cons, refsIn, List.flatMap_append, List.mem_append] at *
      rcases hn with hn | hn | hn
      · exact .inl (.inr hn)
      · exact .inr (.inl hn)
      · exact .inr (.inr (.inr hn))))
    simp only [getArgs, roRefs, h1, h2.1, h2.2]
    exact ⟨trivial, trivial⟩
  | .io e t :: ps, v :: vs, h => by
    have h2 := getArgs_congr ps vs (fun n hn => h n (by
      have e : ∀ m, m ∈ ioNames ps vs → m ∈ ioNames (.io e t :: ps) (v :: vs) := by
        intro m hm
        cases v with
        | ref k o => cases o <;> simp [ioNames, hm]
        | _ => simpa [ioNames] using hm
      simp only [roRefs]
      simp only [List.flatMap_cons, refsIn, List.flatMap_append, List.mem_append] at *
      rcases hn with hn | hn | hn
      · exact .inl (.inr hn)
      · exact .inr (.inl (e n hn))
      · exact .inr (.inr hn)))
    refine ⟨?_, by simp only [roRefs, h2.2]⟩
    cases v with
    | ref n o =>
      have hn := h n (by simp [refsIn, AV.cells, AV.refs])
      cases o with
      | none =>
        simp only [getArgs, h2.1]
        cases getArgs lk' ps vs with
        | none => rfl
        | some r => simp only [hn]
      | some o => simp only [getArgs, h2.1]
    | _ => simp only [getArgs, h2.1]
  | .fnc f :: ps, v :: vs, h => by
    have h2 := getArgs_congr ps vs (fun n hn => h n (by
      have e : ioNames (.fnc f :: ps) (v :: vs) = ioNames ps vs := by simp [ioNames]
      rw [e]
      simp only [roRefs]
      simp only [List.flatMap_cons, refsIn, List.flatMap_append, List.mem_append] at *
      rcases hn with hn | hn | hn
      · exact .inl (.inr hn)
      · exact .inr (.inl hn)
      · exact .inr (.inr hn)))
    simp only [getArgs, roRefs, h2.1, h2.2]
    exact ⟨trivial, trivial⟩
  | .ptr t :: ps, v :: vs, h => by
    have h2 := getArgs_congr ps vs (fun n hn => h n (by
      have e : ∀ m, m ∈ ioNames ps vs → m ∈ ioNames (.ptr t :: ps) (v :: vs) := by
        intro m hm
        cases v <;> simp only [ioNames] <;> first | exact hm | exact List.mem_cons_of_mem _ hm
      simp only [roRefs]
      simp only [List.flatMap_cons, refsIn, List.flatMap_append, List.mem_append] at *
      rcases hn with hn | hn | hn
      · exact .inl (.inr hn)
      · exact .inr (.inl (e n hn))
      · exact .inr (.inr (.inr hn))))
    cases v with
    | pc n o =>
      have hn := h n (by simp [ioNames])
      simp only [getArgs, roRefs, h2.1, h2.2]
      rw [← hn]
      refine ⟨?_, rfl⟩
      cases getArgs lk' ps vs with
      | none => rfl
      | some r =>
        simp only
        split
        · rw [← hn]
          cases hlk : lk n with
          | none => rfl
          | some q =>
            cases q with
            | cell cs =>
              simp only
              rw [(rdCells_congr (lk := lk) (lk' := lk') t cs (fun m hm => h m (by simp only [roRefs, hlk]; simp only [List.mem_append]; exact .inr (.inr (.inl hm))))).1]
            | row e t l => rfl
            | fro t l => rfl
        · rfl
    | _ => simp only [getArgs, roRefs, h2.1, h2.2]; exact ⟨trivial, trivial⟩
/-- What an operation does hangs on its operands and on the roots that it has looked at. -/
theorem step_congr {E : Env} {o : Oper} {base : Nat} {s s1 : St} {rd wr : List Nat} (h : step E o base s outK = some (s1, rd, wr)) :
    ∃ v rs, s1 = s.put o.dst v rs ∧ (∀ n ∈ namesOf rs, n ∈ wr) ∧
      ∀ s' : St, (∀ x ∈ o.op.operands.toList, s'.ev x = s.ev x) → (∀ n ∈ rd, s'.root n = s.root n) → step E o base s' outK = some (s'.put o.dst v rs, rd, wr) := by
  unfold step at h
  cases hd : dstOk E o with
  | false => rw [hd] at h; cases h
  | true =>
    rw [hd] at h
    simp only [cond_true] at h
    cases hc : callOf o.op with
    | none =>
      rw [hc] at h
      simp only at h
      split at h
      · rename_i e he
        cases hg : e.g with
        | false => rw [hg] at h; cases h
        | true =>
          rw [hg] at h
          simp only [cond_true, outK, Option.some.injEq, Prod.mk.injEq] at h
          obtain ⟨rfl, rfl, rfl⟩ := h
          refine ⟨e.v, e.rs, rfl, fun n hn => hn, ?_⟩
          intro s' hev hroot
          have h1 : opEff E o base s'.ev s.root = some e := (opEff_ev hev).trans he
          have h2 := opEff_lk (lk' := s'.root) h1 (fun n hn => (hroot n hn).symm)
          unfold step
          rw [hd, hc]
          simp only [cond_true, h2, hg, outK]
      · cases h
    | some fa =>
      obtain ⟨f, as⟩ := fa
      rw [hc] at h
      simp only at h
      split at h
      · rename_i fid caps hf
        split at h
        · rename_i en hen
          split at h
          · rename_i args hargs
            split at h
            · rename_i fz hfz
              cases hr : en.fn args with
              | none => rw [hr] at h; cases h
              | some r =>
                rw [hr] at h
                simp only [Option.bind_some, outK, Option.some.injEq, Prod.mk.injEq] at h
                obtain ⟨rfl, rfl, rfl⟩ := h
                have hcnt : rowCount en.rs ≤ 8 := by
                  cases hq : (nodupB (ioNames en.ps (as.toList.map s.ev ++ caps)) && !meets (ioNames en.ps (as.toList.map s.ev ++ caps)) (roRefs s.root en.ps (as.toList.map s.ev ++ caps)) && Nat.ble (rowCount en.rs) 8) with
                  | false => rw [hq] at hfz; cases hfz
                  | true => simp only [Bool.and_eq_true] at hq; exact Nat.le_of_ble_eq_true hq.2
                refine ⟨_, _, rfl, ?_, ?_⟩
                · intro n hn
                  exact hn
                · intro s' hev hroot
                  have hops : ∀ x, (x = f ∨ x ∈ as.toList) → s'.ev x = s.ev x := by
                    intro x hx
                    refine hev x ?_
                    unfold callOf at hc
                    split at hc
                    · rename_i cc hop
                      split at hc
                      · rename_i ff hcal
                        cases hc
                        rw [hop]
                        simp only [Op.operands, Call.operands, hcal, Array.toList_append]
                        rcases hx with rfl | hx
                        · exact List.mem_append.2 (.inl (by simp))
                        · exact List.mem_append.2 (.inr hx)
                      · cases hc
                    · cases hc
                  have hmap : as.toList.map s'.ev = as.toList.map s.ev := List.map_congr_left (fun x hx => hops x (.inr hx))
                  have hcg := getArgs_congr en.ps (as.toList.map s.ev ++ caps) (fun n hn => (hroot n hn).symm)
                  have hargs' : getArgs s'.root en.ps (as.toList.map s.ev ++ caps) = some args := hcg.1.symm.trans hargs
                  have hfz' : freeze s'.root (roRefs s.root en.ps (as.toList.map s.ev ++ caps)) = freeze s.root (roRefs s.root en.ps (as.toList.map s.ev ++ caps)) := freeze_congr _ (fun n hn => hroot n (List.mem_append.2 (.inr (List.mem_append.2 (.inr hn)))))
                  unfold step
                  rw [hd, hc]
                  simp only [cond_true, hops f (.inl rfl), hf, hen, hmap, hargs', ← hcg.2, hfz', hfz, hr, Option.bind_some, outK]
            · cases h
          · cases h
        · cases h
      · cases h
end Go.AM
end

noncomputable section
namespace Go.AM

/-- s1 is s with v in the slot d and rs in the roots. -/
structure PutOf (s s1 : St) (d : Option Nat) (v : AV) (rs : List (Nat × Option Root)) : Prop where
  slot : s1.slot = putF s.slot d v
  root : s1.root = updR s.root rs
  io : s1.io = s.io
  nx : s1.nx = s.nx
theorem putOf (s : St) (d : Option Nat) (v : AV) (rs : List (Nat × Option Root)) : PutOf s (s.put d v rs) d v rs := ⟨slot_put s d v rs, root_put s d v rs, rfl, rfl⟩
theorem putF_same {fr : Nat → AV} {d : Nat} {v : AV} (h : fr d = v) : putF fr (some d) v = fr := by
  funext i
  simp only [putF, Option.some.injEq]
  split
  · rename_i e; subst e; exact h.symm
  · rfl
theorem putOf_same {s : St} {d' : Nat} {p : Bool} (h : s.slot d' = .val .bool p) {s1 : St} {d : Option Nat} {v : AV} {rs : List (Nat × Option Root)} (hp : PutOf (s.put (some d') (.val .bool p) []) s1 d v rs) : PutOf s s1 d v rs := by
  obtain ⟨h1, h2, h3, h4⟩ := hp
  refine ⟨?_, ?_, h3, h4⟩
  · rw [h1, slot_put, putF_same h]
  · rw [h2, root_put]; rfl

theorem gOut_congr {E : Env} {ops : Array Oper} {o : Oper} {base : Nat} {s s1 : St} {rd wr : List Nat} (h : gOut E ops o base s = some (s1, rd, wr)) :
    ∃ v rs, (∀ n ∈ namesOf rs, n ∈ wr) ∧ PutOf s s1 o.dst v rs ∧
      ∀ s' : St, (∀ x ∈ slotsOf ops o, s'.slot x = s.slot x) → (∀ n ∈ rd, s'.root n = s.root n) → ∃ s1', gOut E ops o base s' = some (s1', rd, wr) ∧ PutOf s' s1' o.dst v rs := by
  have hops : ∀ s' : St, (∀ x ∈ slotsOf ops o, s'.slot x = s.slot x) → ∀ x ∈ o.op.operands.toList, s'.ev x = s.ev x := by
    intro s' hs x hx
    cases x with
    | tmp t =>
      show slq s'.slot t = slq s.slot t
      unfold slq
      rw [hs t ?_]
      unfold slotsOf
      exact List.mem_append.2 (.inl (List.mem_filterMap.2 ⟨.tmp t, hx, rfl⟩))
    | _ => rfl
  have evp : ∀ (q : St) (d : Nat) (p : Bool), q.slot d = .val .bool p → (q.put (some d) (.val .bool p) []).ev = q.ev := by
    intro q d p hq
    rw [ev_evF, ev_evF, slot_put, putF_same hq]
  have rtp : ∀ (q : St) (d : Nat) (p : Bool), (q.put (some d) (.val .bool p) []).root = q.root := by
    intro q d p
    rw [root_put]; rfl
  unfold gOut guarded guardedG at h
  split at h
  · rename_i hgd
    obtain ⟨v, rs, rfl, hn, hc⟩ := step_congr h
    refine ⟨v, rs, hn, putOf _ _ _ _, fun s' h1 h2 => ⟨s'.put o.dst v rs, ?_, putOf _ _ _ _⟩⟩
    unfold gOut guarded guardedG
    rw [hgd]
    exact hc s' (hops s' h1) h2
  · rename_i j want hgd
    split at h
    · rename_i d hdd
      have hdslot : ∀ s' : St, (∀ x ∈ slotsOf ops o, s'.slot x = s.slot x) → s'.slot d = s.slot d := by
        intro s' hs
        refine hs d ?_
        unfold slotsOf
        rw [hgd]
        simp only [hdd]
        exact List.mem_append.2 (.inr (by simp))
      have hdslq : ∀ s' : St, (∀ x ∈ slotsOf ops o, s'.slot x = s.slot x) → slq s'.slot d = slq s.slot d := by
        intro s' hs
        unfold slq
        rw [hdslot s' hs]
      split at h
      · rename_i p hsq
        have hs := (slq_lt hsq (by simp)).2
        -- the operation runs
        have run : step E o base (s.put (some d) (.val .bool p) []) outK = some (s1, rd, wr) → p = want →
            ∃ v rs, (∀ n ∈ namesOf rs, n ∈ wr) ∧ PutOf s s1 o.dst v rs ∧
              ∀ s' : St, (∀ x ∈ slotsOf ops o, s'.slot x = s.slot x) → (∀ n ∈ rd, s'.root n = s.root n) → ∃ s1', gOut E ops o base s' = some (s1', rd, wr) ∧ PutOf s' s1' o.dst v rs := by
          intro hstep hpw
          obtain ⟨v, rs, rfl, hn, hc⟩ := step_congr hstep
          refine ⟨v, rs, hn, putOf_same hs (putOf _ _ _ _), fun s' h1 h2 => ?_⟩
          have hs' : s'.slot d = .val .bool p := (hdslot s' h1).trans hs
          have h3 := hc (s'.put (some d) (.val .bool p) []) (by
            intro x hx
            rw [evp s' d p hs', evp s d p hs]
            exact hops s' h1 x hx) (by
            intro n hn
            rw [rtp, rtp]
            exact h2 n hn)
          refine ⟨_, ?_, putOf_same hs' (putOf _ _ _ _)⟩
          unfold gOut guarded guardedG
          rw [hgd]
          simp only [hdd, (hdslq s' h1).trans hsq]
          subst hpw
          cases p with
          | true => simp only [cond_true, if_true]; exact h3
          | false => simp only [cond_false, Bool.false_eq_true, if_false]; exact h3
        have skip : (some (((s.put (some d) (.val .bool p) []).put o.dst (.tup []) []), ([] : List Nat), ([] : List Nat)) : Option Out) = some (s1, rd, wr) → p ≠ want →
            ∃ v rs, (∀ n ∈ namesOf rs, n ∈ wr) ∧ PutOf s s1 o.dst v rs ∧
              ∀ s' : St, (∀ x ∈ slotsOf ops o, s'.slot x = s.slot x) → (∀ n ∈ rd, s'.root n = s.root n) → ∃ s1', gOut E ops o base s' = some (s1', rd, wr) ∧ PutOf s' s1' o.dst v rs := by
          intro he hpw
          cases he
          refine ⟨.tup [], [], by simp [namesOf], putOf_same hs (putOf _ _ _ _), fun s' h1 h2 => ?_⟩
          have hs' : s'.slot d = .val .bool p := (hdslot s' h1).trans hs
          refine ⟨_, ?_, putOf_same hs' (putOf _ _ _ _)⟩
          unfold gOut guarded guardedG
          rw [hgd]
          simp only [hdd, (hdslq s' h1).trans hsq]
          cases p with
          | true =>
            cases want with
            | true => exact absurd rfl hpw
            | false => rfl
          | false =>
            cases want with
            | true => rfl
            | false => exact absurd rfl hpw
        cases p with
        | true =>
          simp only [cond_true] at h
          cases want with
          | true => exact run h rfl
          | false => exact skip h (by simp)
        | false =>
          simp only [cond_false] at h
          cases want with
          | true => exact skip h (by simp)
          | false => exact run h rfl
      · rename_i hs
        cases h
        refine ⟨.tup [], [], by simp [namesOf], putOf _ _ _ _, fun s' h1 h2 => ⟨_, ?_, putOf _ _ _ _⟩⟩
        unfold gOut guarded guardedG
        rw [hgd]
        simp only [hdd, (hdslq s' h1).trans hs]
        rfl
      · cases h
    · cases h
end Go.AM
end

noncomputable section
namespace Go.AM

theorem guardedG_mono {R : Type} {r : R} {ops : Array Oper} {o : Oper} {s : St} {run run' skip skip' : St → Option R} (h1 : ∀ s, run s = some r → run' s = some r) (h2 : ∀ s, skip s = some r → skip' s = some r) (h : guardedG ops o s run skip = some r) : guardedG ops o s run' skip' = some r := by
  unfold guardedG at h ⊢
  cases hg : o.guard with
  | none =>
    rw [hg] at h
    exact h1 _ h
  | some jw =>
    obtain ⟨j, want⟩ := jw
    rw [hg] at h
    simp only at h ⊢
    cases hd : (ops[j]?).bind (·.dst) with
    | none => rw [hd] at h; cases h
    | some d =>
      rw [hd] at h
      simp only at h ⊢
      split at h
      · rename_i p hp
        cases p with
        | true =>
          simp only [cond_true] at h ⊢
          cases want with
          | true => exact h1 _ h
          | false => exact h2 _ h
        | false =>
          simp only [cond_false] at h ⊢
          cases want with
          | true => exact h2 _ h
          | false => exact h1 _ h
      · exact h2 _ h
      · cases h
theorem steps_plain {R : Type} {r : R} {E : Env} {rid : Nat} {ops : Array Oper} {nx i : Nat} {o : Oper} {rest : List Oper} {s : St} {lg : List Log} {K : St → List Log → Option R} (h : steps E noInl rid ops (o :: rest) nx i s lg K = some r) :
    guarded E ops o (nx + 8 * i) s (fun s' rd wr => steps E noInl rid ops rest nx (i + 1) s' (⟨i, rd, wr⟩ :: lg) K) = some r := by
  unfold steps at h
  refine guardedG_mono (fun s h => ?_) (fun s h => h) h
  split at h
  · cases hd : dstOk E o with
    | true => rw [hd] at h; cases h
    | false => rw [hd] at h; cases h
  · exact h

/-- A run in the text's order, told state by state. -/
theorem steps_trace {R : Type} {r : R} {E : Env} {rid : Nat} {ops : Array Oper} {nx : Nat} {K : St → List Log → Option R} : ∀ (rest : List Oper) (i : Nat) (s : St) (lg : List Log), i ≤ ops.size → ops.toList.drop i = rest → steps E noInl rid ops rest nx i s lg K = some r →
    ∃ (sg : Nat → St) (rd wr : Nat → List Nat), sg i = s ∧ (∀ j o, i ≤ j → ops[j]? = some o → gOut E ops o (nx + 8 * j) (sg j) = some (sg (j + 1), rd j, wr j)) ∧
      K (sg ops.size) (((List.range' i (ops.size - i)).map fun j => (⟨j, rd j, wr j⟩ : Log)).reverse ++ lg) = some r
  | [], i, s, lg, hle, hrest, h => by
    have hi : ops.size ≤ i := by
      have := congrArg List.length hrest
      simp at this
      omega
    have e : i = ops.size := by omega
    subst e
    refine ⟨fun _ => s, fun _ => [], fun _ => [], rfl, ?_, ?_⟩
    · intro j o hj ho
      have := (Array.getElem?_eq_some_iff.1 ho).1
      omega
    · simpa [steps] using h
  | o :: rest, i, s, lg, hle, hrest, h => by
    have hi : i < ops.size := by
      have := congrArg List.length hrest
      simp at this
      omega
    have ho : ops[i]? = some o := by
      have := congrArg (fun l : List Oper => l[0]?) hrest
      simpa using this
    have hrest' : ops.toList.drop (i + 1) = rest := by
      have := congrArg List.tail hrest
      simpa using this
    have h := steps_plain h
    rw [guarded_bind] at h
    cases hg : gOut E ops o (nx + 8 * i) s with
    | none => rw [hg] at h; cases h
    | some q =>
      obtain ⟨s1, rd1, wr1⟩ := q
      rw [hg] at h
      simp only [Option.bind_some] at h
      obtain ⟨sg, rd, wr, h1, h2, h3⟩ := steps_trace rest (i + 1) s1 _ hi hrest' h
      refine ⟨fun j => if j = i then s else sg j, fun j => if j = i then rd1 else rd j, fun j => if j = i then wr1 else wr j, by simp, ?_, ?_⟩
      · intro j o' hj ho'
        by_cases hji : j = i
        · subst hji
          rw [ho] at ho'
          cases ho'
          simp only [if_true]
          rw [if_neg (by omega), h1]
          exact hg
        · simp only [if_neg hji]
          rw [if_neg (by omega)]
          exact h2 j o' (by omega) ho'
      · simp only
        rw [if_neg (by omega)]
        have e : ops.size - i = (ops.size - (i + 1)) + 1 := by omega
        rw [e, List.range'_succ, List.map_cons, List.reverse_cons, List.append_assoc]
        simp only [if_true, List.singleton_append]
        have hm : (List.range' (i + 1) (ops.size - (i + 1))).map (fun j => (⟨j, if j = i then rd1 else rd j, if j = i then wr1 else wr j⟩ : Log)) = (List.range' (i + 1) (ops.size - (i + 1))).map fun j => (⟨j, rd j, wr j⟩ : Log) := by
          apply List.map_congr_left
          intro j hj
          have := List.mem_range'_1.1 hj
          rw [if_neg (by omega), if_neg (by omega)]
        rw [hm]
        exact h3

/-! ### which operations wait for which -/
def maskOf (acc : List (List Bool)) (o : Oper) : List Bool := (List.range acc.length).map fun j => o.after.toList.any fun e => Region.binds .any e && (Nat.beq e.on j || (acc.getD e.on []).getD j false)
def beforesFrom (acc : List (List Bool)) (ops : List Oper) : List (List Bool) := ops.foldl (fun acc o => acc ++ [maskOf acc o]) acc
theorem befores_eq (ops : List Oper) : befores ops = beforesFrom [] ops := rfl
theorem beforesFrom_pre : ∀ (ops : List Oper) (acc : List (List Bool)), ∃ t, beforesFrom acc ops = acc ++ t ∧ t.length = ops.length
  | [], acc => ⟨[], by simp [beforesFrom], rfl⟩
  | o :: ops, acc => by
    obtain ⟨t, h1, h2⟩ := beforesFrom_pre ops (acc ++ [maskOf acc o])
    exact ⟨maskOf acc o :: t, by simpa [beforesFrom] using h1, by simp [h2]⟩
theorem beforesFrom_get : ∀ (ops : List Oper) (acc : List (List Bool)) (j : Nat) (o : Oper), ops[j]? = some o → ∃ pre, (beforesFrom acc ops).getD (acc.length + j) [] = maskOf pre o ∧ pre.length = acc.length + j ∧ ∀ k, k < acc.length + j → pre.getD k [] = (beforesFrom acc ops).getD k []
  | [], _, _, _, h => by simp at h
  | x :: ops, acc, 0, o, h => by
    simp only [List.getElem?_cons_zero, Option.some.injEq] at h
    subst h
    obtain ⟨t, h1, h2⟩ := beforesFrom_pre ops (acc ++ [maskOf acc x])
    have e : beforesFrom acc (x :: ops) = acc ++ [maskOf acc x] ++ t := h1
    refine ⟨acc, ?_, by simp, ?_⟩
    · rw [e, List.getD_eq_getElem?_getD]
      simp
    · intro k hk
      rw [e, List.getD_eq_getElem?_getD, List.getD_eq_getElem?_getD, List.append_assoc, List.getElem?_append_left (by simpa using hk)]
  | x :: ops, acc, j + 1, o, h => by
    obtain ⟨pre, h1, h2, h3⟩ := beforesFrom_get ops (acc ++ [maskOf acc x]) j o (by simpa using h)
    have e : beforesFrom acc (x :: ops) = beforesFrom (acc ++ [maskOf acc x]) ops := rfl
    have e2 : (acc ++ [maskOf acc x]).length + j = acc.length + (j + 1) := by simp; omega
    rw [e2] at h1 h2 h3
    exact ⟨pre, by rw [e]; exact h1, h2, fun k hk => by rw [e]; exact h3 k hk⟩

/-- Who waits for another (by the mask) has it among the operations that a closed set holds. -/
theorem before_closed {ops : Array Oper} {D : Nat → Prop} (hD : ∀ j o, D j → ops[j]? = some o → ∀ e ∈ o.after.toList, Region.binds .any e = true → D e.on) :
    ∀ (j i : Nat) (o : Oper), D j → ops[j]? = some o → ((befores ops.toList).getD j []).getD i false = true → (∀ k, k < j → ∃ o, ops[k]? = some o) → D i := by
  intro j
  induction j using Nat.strongRecOn with
  | _ j ih =>
    intro i o hj ho hb hk
    obtain ⟨pre, h1, h2, h3⟩ := beforesFrom_get ops.toList [] j o (by simpa using ho)
    simp only [List.length_nil, Nat.zero_add] at h1 h2 h3
    rw [befores_eq, h1] at hb
    unfold maskOf at hb
    rw [List.getD_eq_getElem?_getD, List.getElem?_map] at hb
    cases hr : (List.range pre.length)[i]? with
    | none => rw [hr] at hb; simp at hb
    | some i' =>
      rw [hr] at hb
      have hii : i' = i ∧ i < pre.length := by
        obtain ⟨hlt, he⟩ := List.getElem?_eq_some_iff.1 hr
        simp at hlt he
        exact ⟨he.symm, hlt⟩
      obtain ⟨rfl, hlt⟩ := hii
      simp only [Option.map_some, Option.getD_some] at hb
      obtain ⟨e, he, hbe⟩ := List.any_eq_true.1 hb
      simp only [Bool.and_eq_true, Bool.or_eq_true] at hbe
      have hDe := hD j o hj ho e he hbe.1
      rcases hbe.2 with h | h
      · have := Nat.eq_of_beq_eq_true h
        rw [← this]; exact hDe
      · by_cases hlt2 : e.on < j
        · obtain ⟨oe, hoe⟩ := hk e.on hlt2
          rw [h3 e.on hlt2] at h
          exact ih e.on hlt2 i' oe hDe hoe (by rw [befores_eq]; exact h) (fun k hk' => hk k (by omega))
        · rw [List.getD_eq_getElem?_getD (l := pre), List.getElem?_eq_none (by omega)] at h
          simp at h

theorem befores_len (ops : List Oper) : (befores ops).length = ops.length := by
  obtain ⟨t, h1, h2⟩ := beforesFrom_pre ops []
  rw [befores_eq, h1]; simpa using h2
theorem order_at {ops : Array Oper} {lg : List Log} (h : orderOk ops lg = true) {i j : Nat} {oi oj : Oper} {li lj : Log} (hij : i < j) (hoi : ops[i]? = some oi) (hoj : ops[j]? = some oj) (hli : lg.reverse[i]? = some li) (hlj : lg.reverse[j]? = some lj) :
    ((befores ops.toList).getD j []).getD i false = true ∨ apart ops oi oj li lj = true := by
  have get : ∀ (k : Nat) (o : Oper) (l : Log), ops[k]? = some o → lg.reverse[k]? = some l → ((ops.toList.zip (lg.reverse.zip (befores ops.toList))).zipIdx)[k]? = some ((o, (l, (befores ops.toList).getD k [])), k) := by
    intro k o l ho hl
    have hlt := (Array.getElem?_eq_some_iff.1 ho).1
    have hb : (befores ops.toList)[k]? = some ((befores ops.toList).getD k []) := by
      rw [List.getD_eq_getElem?_getD, List.getElem?_eq_getElem (by rw [befores_len]; simpa using hlt)]
      rfl
    have ho' : ops.toList[k]? = some o := by simpa using ho
    have z1 : (lg.reverse.zip (befores ops.toList))[k]? = some (l, (befores ops.toList).getD k []) := List.getElem?_zip_eq_some.2 ⟨hl, hb⟩
    have z2 : (ops.toList.zip (lg.reverse.zip (befores ops.toList)))[k]? = some (o, (l, (befores ops.toList).getD k [])) := List.getElem?_zip_eq_some.2 ⟨ho', z1⟩
    rw [List.getElem?_zipIdx, z2]
    simp
  have h1 := List.all_eq_true.1 h _ (List.mem_of_getElem? (get j oj lj hoj hlj))
  have h2 := List.all_eq_true.1 h1 _ (List.mem_of_getElem? (get i oi li hoi hli))
  simp only [Bool.or_eq_true, Bool.not_eq_true'] at h2
  rcases h2 with h2 | h2 | h2
  · have h3 : Nat.blt i j = true := Nat.ble_eq_true_of_le hij
    rw [h3] at h2; cases h2
  · exact .inl h2
  · exact .inr h2
end Go.AM
end

noncomputable section
namespace Go.AM

/-! ### the state that a set of operations leaves, whatever the order -/
def canS (s0 : Nat → AV) (dst : Nat → Option Nat) (V : Nat → AV) (D : Nat → Bool) : Nat → Nat → AV
  | 0 => s0
  | k + 1 => bif D k then putF (canS s0 dst V D k) (dst k) (V k) else canS s0 dst V D k
def canR (r0 : Nat → Option Root) (RS : Nat → List (Nat × Option Root)) (D : Nat → Bool) : Nat → Nat → Option Root
  | 0 => r0
  | k + 1 => bif D k then updR (canR r0 RS D k) (RS k) else canR r0 RS D k

section
variable {s0 : Nat → AV} {dst : Nat → Option Nat} {V : Nat → AV} {D D' : Nat → Bool} {r0 : Nat → Option Root} {RS : Nat → List (Nat × Option Root)}
theorem canS_agree {x : Nat} : ∀ (m : Nat), (∀ k, k < m → D k ≠ D' k → dst k ≠ some x) → canS s0 dst V D m x = canS s0 dst V D' m x
  | 0, _ => rfl
  | m + 1, h => by
    have ih := canS_agree (x := x) m (fun k hk => h k (by omega))
    have hm := h m (by omega)
    simp only [canS]
    cases hd : D m <;> cases hd' : D' m <;> simp only [cond_true, cond_false]
    · exact ih
    · rw [hd, hd'] at hm
      simp only [putF]
      rw [if_neg (hm (by simp))]
      exact ih
    · rw [hd, hd'] at hm
      simp only [putF]
      rw [if_neg (hm (by simp))]
      exact ih
    · simp only [putF]
      split
      · rfl
      · exact ih
theorem canR_agree {n : Nat} : ∀ (m : Nat), (∀ k, k < m → D k ≠ D' k → n ∉ namesOf (RS k)) → canR r0 RS D m n = canR r0 RS D' m n
  | 0, _ => rfl
  | m + 1, h => by
    have ih := canR_agree (n := n) m (fun k hk => h k (by omega))
    have hm := h m (by omega)
    simp only [canR]
    cases hd : D m <;> cases hd' : D' m <;> simp only [cond_true, cond_false]
    · exact ih
    · rw [hd, hd'] at hm
      rw [updR_off (hm (by simp))]
      exact ih
    · rw [hd, hd'] at hm
      rw [updR_off (hm (by simp))]
      exact ih
    · by_cases hn : n ∈ namesOf (RS m)
      · exact updR_on hn
      · rw [updR_off hn, updR_off hn]; exact ih
/-- One operation more. -/
theorem canS_insert {i : Nat} (hi : D i = false) (m : Nat) (him : i < m) (h : ∀ k, k < m → i < k → D k = true → ∀ x, dst i = some x → dst k ≠ some x) :
    canS s0 dst V (fun k => D k || Nat.beq k i) m = putF (canS s0 dst V D m) (dst i) (V i) := by
  induction m with
  | zero => omega
  | succ m ih =>
    simp only [canS]
    by_cases hm : m = i
    · subst hm
      have e : canS s0 dst V (fun k => D k || Nat.beq k m) m = canS s0 dst V D m := by
        funext x
        refine canS_agree m (fun k hk hne => ?_)
        exfalso
        rw [beq_ne (by omega : ¬ k = m), Bool.or_false] at hne
        exact hne rfl
      simp only [Nat.beq_refl, Bool.or_true, cond_true, hi, cond_false, e]
    · rw [beq_ne hm, Bool.or_false, ih (by omega) (fun k hk => h k (by omega))]
      cases hd : D m with
      | false => rfl
      | true =>
        simp only [cond_true]
        funext x
        simp only [putF]
        have hne := h m (by omega) (by omega) hd
        by_cases h1 : dst m = some x
        · rw [if_pos h1]
          have : ¬ dst i = some x := fun e => hne x e h1
          rw [if_neg this, if_pos h1]
        · rw [if_neg h1]
          by_cases h2 : dst i = some x
          · rw [if_pos h2, if_pos h2]
          · rw [if_neg h2, if_neg h2, if_neg h1]
theorem canR_insert {i : Nat} (hi : D i = false) (m : Nat) (him : i < m) (h : ∀ k, k < m → i < k → D k = true → ∀ n ∈ namesOf (RS i), n ∉ namesOf (RS k)) :
    canR r0 RS (fun k => D k || Nat.beq k i) m = updR (canR r0 RS D m) (RS i) := by
  induction m with
  | zero => omega
  | succ m ih =>
    simp only [canR]
    by_cases hm : m = i
    · subst hm
      have e : canR r0 RS (fun k => D k || Nat.beq k m) m = canR r0 RS D m := by
        funext x
        refine canR_agree m (fun k hk hne => ?_)
        exfalso
        rw [beq_ne (by omega : ¬ k = m), Bool.or_false] at hne
        exact hne rfl
      simp only [Nat.beq_refl, Bool.or_true, cond_true, hi, cond_false, e]
    · rw [beq_ne hm, Bool.or_false, ih (by omega) (fun k hk => h k (by omega))]
      cases hd : D m with
      | false => rfl
      | true =>
        simp only [cond_true]
        exact updR_comm (fun n hn => h m (by omega) (by omega) hd n hn)
end
end Go.AM
end

noncomputable section
namespace Go.AM

section
variable {C : Ctx} {E : Env}

/-- A run in the text's order: what each operation leaves, and what that hangs on. -/
structure Trace (E : Env) (ops : Array Oper) (nx : Nat) (sg : Nat → St) (rd wr : Nat → List Nat) (V : Nat → AV) (RS : Nat → List (Nat × Option Root)) : Prop where
  put : ∀ j o, ops[j]? = some o → PutOf (sg j) (sg (j + 1)) o.dst (V j) (RS j)
  names : ∀ j o, ops[j]? = some o → ∀ n ∈ namesOf (RS j), n ∈ wr j
  cong : ∀ j o, ops[j]? = some o → ∀ s' : St, (∀ x ∈ slotsOf ops o, s'.slot x = (sg j).slot x) → (∀ n ∈ rd j, s'.root n = (sg j).root n) →
    ∃ s1', gOut E ops o (nx + 8 * j) s' = some (s1', rd j, wr j) ∧ PutOf s' s1' o.dst (V j) (RS j)

theorem trace_of {ops : Array Oper} {nx : Nat} {sg : Nat → St} {rd wr : Nat → List Nat} (h : ∀ j o, 0 ≤ j → ops[j]? = some o → gOut E ops o (nx + 8 * j) (sg j) = some (sg (j + 1), rd j, wr j)) :
    ∃ V RS, Trace E ops nx sg rd wr V RS := by
  have key : ∀ j, ∃ p : AV × List (Nat × Option Root), ∀ o, ops[j]? = some o → (∀ n ∈ namesOf p.2, n ∈ wr j) ∧ PutOf (sg j) (sg (j + 1)) o.dst p.1 p.2 ∧
      ∀ s' : St, (∀ x ∈ slotsOf ops o, s'.slot x = (sg j).slot x) → (∀ n ∈ rd j, s'.root n = (sg j).root n) → ∃ s1', gOut E ops o (nx + 8 * j) s' = some (s1', rd j, wr j) ∧ PutOf s' s1' o.dst p.1 p.2 := by
    intro j
    cases ho : ops[j]? with
    | none => exact ⟨(.undef, []), fun o e => by cases e⟩
    | some o =>
      obtain ⟨v, rs, h1, h2, h3⟩ := gOut_congr (h j o (Nat.zero_le _) ho)
      exact ⟨(v, rs), fun o' e => by cases e; exact ⟨h1, h2, h3⟩⟩
  refine ⟨fun j => (Classical.choose (key j)).1, fun j => (Classical.choose (key j)).2, ?_, ?_, ?_⟩
  · exact fun j o ho => (Classical.choose_spec (key j) o ho).2.1
  · exact fun j o ho => (Classical.choose_spec (key j) o ho).1
  · exact fun j o ho => (Classical.choose_spec (key j) o ho).2.2

def dstAt (ops : Array Oper) (j : Nat) : Option Nat := (ops[j]?).bind (·.dst)
/-- The canonical states along the text's order are the run's own. -/
theorem trace_can {ops : Array Oper} {nx : Nat} {sg : Nat → St} {rd wr : Nat → List Nat} {V : Nat → AV} {RS : Nat → List (Nat × Option Root)} (T : Trace E ops nx sg rd wr V RS) (D : Nat → Bool) :
    ∀ i, i ≤ ops.size → (∀ k, k < i → D k = true) → (sg i).slot = canS (sg 0).slot (dstAt ops) V D i ∧ (sg i).root = canR (sg 0).root RS D i ∧ (sg i).io = (sg 0).io ∧ (sg i).nx = (sg 0).nx
  | 0, _, _ => ⟨rfl, rfl, rfl, rfl⟩
  | i + 1, hi, hD => by
    obtain ⟨h1, h2, h3, h4⟩ := trace_can T D i (by omega) (fun k hk => hD k (by omega))
    have ho : ops[i]? = some ops[i] := Array.getElem?_eq_getElem (by omega)
    have hp := T.put i _ ho
    have hd : dstAt ops i = (ops[i]).dst := by simp [dstAt, ho]
    simp only [canS, canR, hD i (by omega), cond_true]
    exact ⟨by rw [hp.slot, h1, hd], by rw [hp.root, h2], hp.io.trans h3, hp.nx.trans h4⟩
end
end Go.AM
end

noncomputable section
namespace Go.AM

theorem canS_take {s0 : Nat → AV} {dst : Nat → Option Nat} {V : Nat → AV} {D : Nat → Bool} {i : Nat} : ∀ m, i ≤ m → (∀ k, i ≤ k → D k = false) → canS s0 dst V D m = canS s0 dst V D i
  | 0, h, _ => by have : i = 0 := by omega
                  subst this; rfl
  | m + 1, h, hD => by
    by_cases e : i = m + 1
    · subst e; rfl
    · simp only [canS, hD m (by omega), cond_false]
      exact canS_take m (by omega) hD
theorem canR_take {r0 : Nat → Option Root} {RS : Nat → List (Nat × Option Root)} {D : Nat → Bool} {i : Nat} : ∀ m, i ≤ m → (∀ k, i ≤ k → D k = false) → canR r0 RS D m = canR r0 RS D i
  | 0, h, _ => by have : i = 0 := by omega
                  subst this; rfl
  | m + 1, h, hD => by
    by_cases e : i = m + 1
    · subst e; rfl
    · simp only [canR, hD m (by omega), cond_false]
      exact canR_take m (by omega) hD

theorem apart_use {ops : Array Oper} {x y : Oper} {lx ly : Log} (h : apart ops x y lx ly = true) :
    (∀ n ∈ lx.wr, n ∉ ly.rd ∧ n ∉ ly.wr) ∧ (∀ n ∈ ly.wr, n ∉ lx.rd ∧ n ∉ lx.wr) ∧
    (∀ d, x.dst = some d → d ∉ slotsOf ops y ∧ y.dst ≠ some d) ∧ (∀ d, y.dst = some d → d ∉ slotsOf ops x ∧ x.dst ≠ some d) := by
  unfold apart at h
  simp only [Bool.and_eq_true, Bool.not_eq_true'] at h
  obtain ⟨h1, h2, h3, h4⟩ := h
  have m1 := meets_iff h1
  have m2 := meets_iff h2
  have m3 := meets_iff h3
  have m4 := meets_iff h4
  refine ⟨fun n hn => ?_, fun n hn => ?_, fun d hd => ?_, fun d hd => ?_⟩
  · have := m1 n hn
    simp only [List.mem_append, not_or] at this
    exact this
  · have := m2 n hn
    simp only [List.mem_append, not_or] at this
    exact this
  · have := m3 d (by simp [hd])
    simp only [List.mem_append, not_or] at this
    exact ⟨this.1, fun e => this.2 (by simp [e])⟩
  · have := m4 d (by simp [hd])
    simp only [List.mem_append, not_or] at this
    exact ⟨this.1, fun e => this.2 (by simp [e])⟩

/-- In a set that waits are closed under, an operation that is due sees what it saw in the text's order, and nobody there has written what it will write. -/
theorem due_agrees {E : Env} {ops : Array Oper} {nx : Nat} {sg : Nat → St} {rd wr : Nat → List Nat} {V : Nat → AV} {RS : Nat → List (Nat × Option Root)} (T : Trace E ops nx sg rd wr V RS) {B : Nat → Nat → Bool}
    (hord : ∀ i j oi oj, i < j → ops[i]? = some oi → ops[j]? = some oj → B j i = true ∨ apart ops oi oj ⟨i, rd i, wr i⟩ ⟨j, rd j, wr j⟩ = true) {D : Nat → Bool} (hD : ∀ j i, D j = true → B j i = true → D i = true)
    {i : Nat} {oi : Oper} (hoi : ops[i]? = some oi) (hi : D i = false) (hpre : ∀ k, B i k = true → D k = true) :
    (∀ x ∈ slotsOf ops oi, canS (sg 0).slot (dstAt ops) V D ops.size x = (sg i).slot x) ∧ (∀ n ∈ rd i, canR (sg 0).root RS D ops.size n = (sg i).root n) ∧
      ∀ k, k < ops.size → i < k → D k = true → (∀ x, dstAt ops i = some x → dstAt ops k ≠ some x) ∧ ∀ n ∈ namesOf (RS i), n ∉ namesOf (RS k) := by
  have hlt := (Array.getElem?_eq_some_iff.1 hoi).1
  let Di : Nat → Bool := fun k => decide (k < i)
  obtain ⟨c1, c2, _, _⟩ := trace_can T Di i (by omega) (fun k hk => by simp [Di, hk])
  have t1 : canS (sg 0).slot (dstAt ops) V Di ops.size = (sg i).slot := by rw [c1]; exact canS_take _ (by omega) (fun k hk => by simp [Di]; omega)
  have t2 : canR (sg 0).root RS Di ops.size = (sg i).root := by rw [c2]; exact canR_take _ (by omega) (fun k hk => by simp [Di]; omega)
  have get : ∀ k, k < ops.size → ops[k]? = some ops[k]! := fun k hk => by rw [Array.getElem?_eq_getElem hk, getElem!_pos ops k hk]
  have dk : ∀ k o, ops[k]? = some o → dstAt ops k = o.dst := fun k o ho => by simp [dstAt, ho]
  -- whoever differs is apart
  have diff : ∀ k, k < ops.size → D k ≠ Di k → (∀ x ∈ slotsOf ops oi, dstAt ops k ≠ some x) ∧ (∀ n ∈ rd i, n ∉ wr k) := by
    intro k hk hne
    have hok := get k hk
    rcases Nat.lt_trichotomy k i with h | h | h
    · have hDk : D k = false := by
        cases hd : D k with
        | false => rfl
        | true => exfalso; rw [hd] at hne; simp [Di, h] at hne
      rcases hord k i _ oi h hok hoi with hb | ha
      · rw [hpre k hb] at hDk; cases hDk
      · obtain ⟨a1, a2, a3, a4⟩ := apart_use ha
        refine ⟨fun x hx e => ?_, fun n hn hw => (a1 n hw).1 hn⟩
        rw [dk k _ hok] at e
        exact (a3 x e).1 hx
    · subst h
      exfalso
      rw [hi] at hne
      simp [Di] at hne
    · have hDk : D k = true := by
        cases hd : D k with
        | true => rfl
        | false => exfalso; rw [hd] at hne; simp [Di] at hne; omega
      rcases hord i k oi _ h hoi hok with hb | ha
      · rw [hD k i hDk hb] at hi; cases hi
      · obtain ⟨a1, a2, a3, a4⟩ := apart_use ha
        refine ⟨fun x hx e => ?_, fun n hn hw => (a2 n hw).1 hn⟩
        rw [dk k _ hok] at e
        exact (a4 x e).1 hx
  refine ⟨fun x hx => ?_, fun n hn => ?_, ?_⟩
  · rw [← t1]
    exact canS_agree _ (fun k hk hne => (diff k hk hne).1 x hx)
  · rw [← t2]
    exact canR_agree _ (fun k hk hne hw => (diff k hk hne).2 n hn (T.names k _ (get k hk) n hw))
  · intro k hk hik hDk
    have hok := get k hk
    rcases hord i k oi _ hik hoi hok with hb | ha
    · rw [hD k i hDk hb] at hi; cases hi
    · obtain ⟨a1, a2, a3, a4⟩ := apart_use ha
      refine ⟨fun x hx e => ?_, fun n hn hw => ?_⟩
      · rw [dk i _ hoi] at hx
        rw [dk k _ hok] at e
        exact (a3 x hx).2 e
      · exact (a1 n (T.names i _ hoi n hn)).2 (T.names k _ hok n hw)
end Go.AM
end

noncomputable section
namespace Go.AM
open Go.RowKit

/-- Nobody waits for one that comes later. -/
def backOk (ops : Array Oper) : Bool := ops.toList.zipIdx.all fun (o, i) => o.after.toList.all fun e => !(Region.binds .any e) || Nat.blt e.on i
theorem backOk_at {ops : Array Oper} (h : backOk ops = true) {i : Nat} {o : Oper} (ho : ops[i]? = some o) : ∀ e ∈ o.after.toList, Region.binds .any e = true → e.on < i := by
  intro e he hb
  have h1 : (ops.toList.zipIdx)[i]? = some (o, i) := by
    rw [List.getElem?_zipIdx]
    have : ops.toList[i]? = some o := by simpa using ho
    rw [this]; simp
  have h2 := List.all_eq_true.1 h _ (List.mem_of_getElem? h1)
  have h3 := List.all_eq_true.1 h2 e he
  rw [hb] at h3
  simp only [Bool.not_true, Bool.false_or] at h3
  exact Nat.le_of_ble_eq_true h3
theorem before_lt {ops : Array Oper} {i k : Nat} {o : Oper} (ho : ops[i]? = some o) (h : ((befores ops.toList).getD i []).getD k false = true) : k < i := by
  obtain ⟨pre, h1, h2, h3⟩ := beforesFrom_get ops.toList [] i o (by simpa using ho)
  simp only [List.length_nil, Nat.zero_add] at h1 h2 h3
  rw [befores_eq, h1] at h
  unfold maskOf at h
  rw [List.getD_eq_getElem?_getD, List.getElem?_map] at h
  cases hr : (List.range pre.length)[k]? with
  | none => rw [hr] at h; simp at h
  | some i' =>
    have := (List.getElem?_eq_some_iff.1 hr).1
    simp at this
    omega

theorem ready_iff {ops : Array Oper} {listed : Array Bool} {i : Nat} (h : i ∈ Region.ready .any ops listed) : ∃ o, ops[i]? = some o ∧ i < ops.size ∧ listed.getD i true = false ∧ ∀ e ∈ o.after.toList, Region.binds .any e = true → listed.getD e.on false = true := by
  unfold Region.ready at h
  simp only [List.mem_filter, List.mem_range, Bool.and_eq_true, Bool.not_eq_true'] at h
  obtain ⟨h1, h2, h3⟩ := h
  refine ⟨ops[i], Array.getElem?_eq_getElem h1, h1, h2, ?_⟩
  rw [Array.getElem?_eq_getElem h1] at h3
  simp only [Option.map_some, Option.getD_some] at h3
  intro e he hb
  have h4 := Array.all_eq_true'.1 h3 e (Array.mem_toList_iff.1 he)
  rw [hb] at h4
  simpa using h4
/-- Where nobody is ready, all are listed. -/
theorem ready_nil {ops : Array Oper} {listed : Array Bool} (hb : backOk ops = true) (hs : listed.size = ops.size) (h : Region.ready .any ops listed = []) : ∀ i, i < ops.size → listed.getD i false = true := by
  intro i
  induction i using Nat.strongRecOn with
  | _ i ih =>
    intro hi
    cases hl : listed.getD i false with
    | true => rfl
    | false =>
      exfalso
      have hm : i ∈ Region.ready .any ops listed := by
        unfold Region.ready
        simp only [List.mem_filter, List.mem_range, Bool.and_eq_true, Bool.not_eq_true']
        refine ⟨hi, ?_, ?_⟩
        · rw [Array.getD_eq_getD_getElem?, Array.getElem?_eq_getElem (by omega)] at hl ⊢
          simpa using hl
        · rw [Array.getElem?_eq_getElem hi]
          simp only [Option.map_some, Option.getD_some]
          refine Array.all_eq_true'.2 (fun e he => ?_)
          cases hbe : Region.binds .any e with
          | false => simp
          | true =>
            have := backOk_at hb (Array.getElem?_eq_getElem hi) e (Array.mem_toList_iff.2 he) hbe
            simp [ih e.on this (by omega)]
      rw [h] at hm
      cases hm

section
variable {C : Ctx} {E : Env} {R : Type} {r : R}

theorem GoodP.eqs {p : Nat → Prop} {s t : St} {a : Act} {w : World} (h1 : t.slot = s.slot) (h2 : t.root = s.root) (h3 : t.io = s.io) (h : GoodP C p t a w) : GoodP C p s a w := by
  obtain ⟨S, H, N, hI, hN⟩ := h
  rw [h1, h2, h3] at hI
  exact ⟨S, H, N, hI, hN⟩
theorem GoodP.drew {p : Nat → Prop} {s : St} {a : Act} {w : World} (h : GoodP C p s a w) (n : Nat) : GoodP C p s a { w with drawn := n } := by
  obtain ⟨S, H, N, hI, hN⟩ := h
  exact ⟨S, H, N, hI.world (fun _ hb => hb) (fun _ hb => .inl hb) (fun _ => False) (fun _ h => h.elim) (fun _ _ _ => rfl) (Nat.le_refl _) rfl rfl rfl, hN⟩

/-- The names that a set of operations may have given. -/
def nmP (nx : Nat) (D : Nat → Bool) : Nat → Prop := fun m => m < nx ∨ ∃ j, D j = true ∧ nx + 8 * j ≤ m ∧ m < nx + 8 * j + 8
def unlisted (listed : Array Bool) : Nat := listed.toList.countP (fun b => !b)
theorem unlisted_set {l : List Bool} {i : Nat} (h : l[i]? = some false) : (l.set i true).countP (fun b => !b) + 1 = l.countP (fun b => !b) := by
  induction l generalizing i with
  | nil => simp at h
  | cons b l ih =>
    cases i with
    | zero =>
      simp at h
      subst h
      simp
    | succ i =>
      simp only [List.getElem?_cons_succ] at h
      have := ih h
      simp only [List.set_cons_succ, List.countP_cons]
      omega
theorem unlisted_none {l : List Bool} {i : Nat} (h : l.countP (fun b => !b) = 0) (hi : l[i]? = some false) : False := by
  have := List.countP_eq_zero.1 h false (List.mem_of_getElem? hi)
  simp at this

theorem any_sound (hE : EnvOk C E) {ops : Array Oper} (hdst : dstsOk E ops = true) (hback : backOk ops = true) {nx : Nat} {sg : Nat → St} {rd wr : Nat → List Nat} {V : Nat → AV} {RS : Nat → List (Nat × Option Root)} (T : Trace E ops nx sg rd wr V RS)
    (hord : ∀ i j oi oj, i < j → ops[i]? = some oi → ops[j]? = some oj → ((befores ops.toList).getD j []).getD i false = true ∨ apart ops oi oj ⟨i, rd i, wr i⟩ ⟨j, rd j, wr j⟩ = true)
    {Q : Exit → Act → World → Prop} (hQ : ∀ a w, GoodP C (fun n => n < nx + 8 * ops.size) (sg ops.size) a w → Q .normal a w) :
    ∀ (fuel : Nat) (listed : Array Bool) (D : Nat → Bool) (t : St) (a : Act) (w : World), (∀ k, D k = listed.getD k false) → listed.size = ops.size → unlisted listed = fuel → (∀ j o, D j = true → ops[j]? = some o → ∀ e ∈ o.after.toList, Region.binds .any e = true → D e.on = true) →
      t.slot = canS (sg 0).slot (dstAt ops) V D ops.size → t.root = canR (sg 0).root RS D ops.size → t.io = (sg 0).io → GoodP C (nmP nx D) t a w → wpAny C.P .any ops Q fuel listed a w := by
  -- the end
  have fin : ∀ (D : Nat → Bool) (t : St) (a : Act) (w : World), (∀ i, i < ops.size → D i = true) → (∀ i, ops.size ≤ i → D i = false) → t.slot = canS (sg 0).slot (dstAt ops) V D ops.size → t.root = canR (sg 0).root RS D ops.size → t.io = (sg 0).io → GoodP C (nmP nx D) t a w → Q .normal a w := by
    intro D t a w hall hnone h1 h2 h3 hg
    obtain ⟨c1, c2, c3, _⟩ := trace_can T D ops.size (Nat.le_refl _) hall
    refine hQ a w (GoodP.eqs (h1.trans c1.symm) (h2.trans c2.symm) (h3.trans c3.symm) (hg.imp ?_))
    rintro n (h | ⟨j, hj, h4, h5⟩)
    · omega
    · have : j < ops.size := by
        rcases Nat.lt_or_ge j ops.size with h | h
        · exact h
        · rw [hnone j h] at hj; cases hj
      omega
  have out : ∀ (listed : Array Bool) (D : Nat → Bool), (∀ k, D k = listed.getD k false) → listed.size = ops.size → ∀ i, ops.size ≤ i → D i = false := by
    intro listed D hD hs i hi
    rw [hD, Array.getD_eq_getD_getElem?, Array.getElem?_eq_none (by omega)]
    rfl
  intro fuel
  induction fuel with
  | zero =>
    intro listed D t a w hD hs hu hcl h1 h2 h3 hg
    have hall : ∀ i, i < ops.size → D i = true := by
      intro i hi
      rw [hD]
      cases hl : listed.getD i false with
      | true => rfl
      | false =>
        exfalso
        rw [Array.getD_eq_getD_getElem?, Array.getElem?_eq_getElem (by omega)] at hl
        refine unlisted_none (i := i) hu ?_
        rw [Array.getElem?_toList, Array.getElem?_eq_getElem (by omega)]
        simpa using hl
    refine ⟨?_, fin D t a w hall (out listed D hD hs) h1 h2 h3 hg⟩
    cases hr : Region.ready .any ops listed with
    | nil => rfl
    | cons i l =>
      exfalso
      obtain ⟨o, _, hlt, h4, _⟩ := ready_iff (i := i) (by rw [hr]; simp)
      have := hall i hlt
      rw [hD] at this
      rw [Array.getD_eq_getD_getElem?, Array.getElem?_eq_getElem (by omega)] at this h4
      simp at this h4
      rw [this] at h4
      cases h4
  | succ fuel ih =>
    intro listed D t a w hD hs hu hcl h1 h2 h3 hg
    refine ⟨fun hr => fin D t a w (fun i hi => by rw [hD]; exact ready_nil hback hs hr i hi) (out listed D hD hs) h1 h2 h3 hg, ?_⟩
    intro i hi
    obtain ⟨o, ho, hlt, hli, hafter⟩ := ready_iff hi
    have hDi : D i = false := by
      rw [hD]
      rw [Array.getD_eq_getD_getElem?, Array.getElem?_eq_getElem (by omega)] at hli ⊢
      simpa using hli
    let D' : Nat → Bool := fun k => D k || Nat.beq k i
    have hcl' : ∀ j o, D' j = true → ops[j]? = some o → ∀ e ∈ o.after.toList, Region.binds .any e = true → D' e.on = true := by
      intro j oj hj hoj e he hb
      simp only [D', Bool.or_eq_true] at hj ⊢
      rcases hj with hj | hj
      · exact .inl (hcl j oj hj hoj e he hb)
      · have := Nat.eq_of_beq_eq_true hj
        subst this
        rw [ho] at hoj
        cases hoj
        left
        rw [hD]
        exact hafter e he hb
    have hex : ∀ j, j < ops.size → ∀ k, k < j → ∃ o, ops[k]? = some o := fun j hj k hk => ⟨ops[k]'(by omega), Array.getElem?_eq_getElem (by omega)⟩
    have hpre : ∀ k, ((befores ops.toList).getD i []).getD k false = true → D k = true := by
      intro k hk
      have hki := before_lt ho hk
      have := before_closed (D := fun k => D' k = true) (fun j o hj ho e he hb => hcl' j o hj ho e he hb) i k o (by simp [D']) ho hk (hex i hlt)
      simp only [D', Bool.or_eq_true] at this
      rcases this with h | h
      · exact h
      · have := Nat.eq_of_beq_eq_true h
        omega
    have hclB : ∀ j k, D j = true → ((befores ops.toList).getD j []).getD k false = true → D k = true := by
      intro j k hj hb
      have hjlt : j < ops.size := by
        rcases Nat.lt_or_ge j ops.size with h | h
        · exact h
        · rw [out listed D hD hs j h] at hj; cases hj
      exact before_closed (D := fun k => D k = true) (fun j o hj ho e he hb => hcl j o hj ho e he hb) j k _ hj (Array.getElem?_eq_getElem hjlt) hb (hex j hjlt)
    obtain ⟨ha1, ha2, ha3⟩ := due_agrees T (B := fun j k => ((befores ops.toList).getD j []).getD k false) hord hclB ho hDi hpre
    obtain ⟨s1, hout, hput⟩ := T.cong i o ho t (fun x hx => by rw [h1]; exact ha1 x hx) (fun n hn => by rw [h2]; exact ha2 n hn)
    have hdo : dstOk E o = true := List.all_eq_true.1 hdst o (Array.mem_toList_iff.2 (Array.mem_of_getElem? ho))
    have hfree : FreeP (nmP nx D) (nx + 8 * i) := by
      rintro k hk1 hk2 (h | ⟨j, hj, h4, h5⟩)
      · omega
      · have : j = i := by omega
        subst this
        rw [hDi] at hj; cases hj
    have key := guarded_sound (Q := Q) (K' := wpAny C.P .any ops Q fuel (listed.setIfInBounds i true)) hE ho hdo hfree hout hg (by
      intro s' rd' wr' a' w' he _ hg'
      cases he
      refine ih (listed.setIfInBounds i true) D' s1 a' w' ?_ (by simpa using hs) ?_ hcl' ?_ ?_ (hput.io.trans h3) (hg'.imp ?_)
      · intro k
        simp only [D', hD]
        rw [Array.getD_eq_getD_getElem?, Array.getD_eq_getD_getElem?, Array.getElem?_setIfInBounds]
        by_cases hki : k = i
        · subst hki
          simp [hs, hlt]
        · rw [beq_ne hki, if_neg (fun e => hki e.symm), Bool.or_false]
      · unfold unlisted at hu ⊢
        have : listed.toList[i]? = some false := by
          rw [Array.getElem?_toList]
          rw [Array.getD_eq_getD_getElem?] at hli
          rw [Array.getElem?_eq_getElem (by omega)] at hli ⊢
          simpa using hli
        have := unlisted_set this
        rw [Array.toList_setIfInBounds]
        omega
      · rw [hput.slot, h1]
        have hd : dstAt ops i = o.dst := by simp [dstAt, ho]
        rw [← hd]
        exact (canS_insert hDi ops.size hlt (fun k hk hik hDk x hx => (ha3 k hk hik hDk).1 x hx)).symm
      · rw [hput.root, h2]
        exact (canR_insert hDi ops.size hlt (fun k hk hik hDk n hn => (ha3 k hk hik hDk).2 n hn)).symm
      · rintro n (h | h)
        · rcases h with h | ⟨j, hj, h4⟩
          · exact .inl h
          · exact .inr ⟨j, by simp [D', hj], h4⟩
        · exact .inr ⟨i, by simp [D'], h⟩)
    unfold wpOp
    rw [ho]
    exact key

theorem region_any_sound (hE : EnvOk C E) {id : Nat} {ops : Array Oper} (hdst : dstsOk E ops = true) (hback : backOk ops = true) {s : St} {K : AExit → St → Option R} {a : Act} {w : World} {Q : Exit → Act → World → Prop}
    (h : (steps E noInl id ops ops.toList s.nx 0 s [] fun s' lg => if !orderOk ops lg then none else K .normal { s' with nx := s'.nx + 8 * ops.size }) = some r) (hg : Good C s a w)
    (hK : ∀ e s' a' w', K e s' = some r → Good C s' a' w' → Q (match e with | .normal => .normal | .exit id => .exit id | .ret => .ret) a' w') : (Code.region id ops true).wp C.P Q a w := by
  refine wp_region_any hE.mixed ?_
  obtain ⟨sg, rd, wr, h0, h1, h2⟩ := steps_trace ops.toList 0 s [] (Nat.zero_le _) rfl h
  cases hord : orderOk ops (((List.range' 0 (ops.size - 0)).map fun j => (⟨j, rd j, wr j⟩ : Log)).reverse ++ []) with
  | false => rw [hord] at h2; simp at h2
  | true =>
    rw [hord] at h2
    simp only [Bool.not_true, Bool.false_eq_true, if_false] at h2
    obtain ⟨V, RS, T⟩ := trace_of h1
    have hlg : ∀ k, k < ops.size → ((((List.range' 0 (ops.size - 0)).map fun j => (⟨j, rd j, wr j⟩ : Log)).reverse ++ []).reverse)[k]? = some ⟨k, rd k, wr k⟩ := by
      intro k hk
      simp [hk]
    refine any_sound hE hdst hback T ?_ ?_ ops.size (Array.replicate ops.size false) (fun k => (Array.replicate ops.size false).getD k false) s a _ (fun _ => rfl) (by simp) ?_ ?_ ?_ ?_ (by rw [h0]) ?_
    · intro i j oi oj hij hoi hoj
      exact order_at hord hij hoi hoj (hlg i (Array.getElem?_eq_some_iff.1 hoi).1) (hlg j (Array.getElem?_eq_some_iff.1 hoj).1)
    · intro a' w' hg'
      refine hK .normal _ a' w' h2 ?_
      have hnx := (trace_can T (fun _ => true) ops.size (Nat.le_refl _) (fun _ _ => rfl)).2.2.2
      rw [h0] at hnx
      show GoodB C ((sg ops.size).nx + 8 * ops.size) _ a' w'
      rw [hnx]
      exact hg'
    · simp [unlisted, List.countP_replicate]
    · intro j o hj
      exfalso
      simp only [Array.getD_eq_getD_getElem?, Array.getElem?_replicate] at hj
      split at hj <;> simp at hj
    · rw [h0]
      exact (canS_take (i := 0) ops.size (Nat.zero_le _) (fun k _ => by simp only [Array.getD_eq_getD_getElem?, Array.getElem?_replicate]; split <;> rfl)).symm
    · rw [h0]
      exact (canR_take (i := 0) ops.size (Nat.zero_le _) (fun k _ => by simp only [Array.getD_eq_getD_getElem?, Array.getElem?_replicate]; split <;> rfl)).symm
    · refine GoodP.drew (hg.imp ?_) _
      intro n hn
      exact .inl hn
end
end Go.AM
end

noncomputable section
namespace Go.AM
open Go.RowKit

section
variable {C : Ctx} {E : Env} {R : Type} {r : R}

/-- A text that the abstract machine can be asked about: every result's slot is there; where an order is drawn, nobody waits for one that comes later. -/
def codeFit (E : Env) : Code → Bool
  | .region _ ops draw => dstsOk E ops && (!draw || backOk ops)
  | .seq a b => codeFit E a && codeFit E b
  | .cond _ a b => codeFit E a && codeFit E b
  | .block _ c => codeFit E c
  | .loop c => codeFit E c
  | _ => true

theorem both_some {a b : Option R} (h : both a b = some r) : a = some r ∧ b = some r := by
  unfold both at h
  by_cases e : a = b
  · rw [if_pos e] at h
    exact ⟨h, e ▸ h⟩
  · rw [if_neg e] at h
    cases h
theorem exec_sound (hE : EnvOk C E) {J : Inl R} (hJ : InlOk C J r) {L : Nat → St → (AExit → St → Option R) → Option R} {code : Code} (hL : LoopsOk E J L code) :
    ∀ (c : Code), codeFit E c = true → (∀ d ∈ loopsIn c, findLoop (firstRegion d) code = some d) → ∀ (s : St) (K : AExit → St → Option R) (a : Act) (w : World) (Q : Exit → Act → World → Prop),
      aexec E J L c s K = some r → Good C s a w → (∀ e s' a' w', K e s' = some r → Good C s' a' w' → Q (exOf e) a' w') → c.wp C.P Q a w
  | .skip, _, _, s, K, a, w, Q, h, hg, hK => wp_skip (hK .normal s a w h hg)
  | .exit id, _, _, s, K, a, w, Q, h, hg, hK => wp_exit (hK (.exit id) s a w h hg)
  | .ret, _, _, s, K, a, w, Q, h, hg, hK => wp_ret (hK .ret s a w h hg)
  | .region id ops draw, hf, _, s, K, a, w, Q, h, hg, hK => by
    simp only [codeFit, Bool.and_eq_true] at hf
    obtain ⟨hd, hb⟩ := hf
    cases draw with
    | false =>
      refine wp_region ?_
      simp only [aexec, cond_false] at h
      rw [List.range_eq_range']
      refine steps_sound hE hJ hd ops.toList s.nx 0 s [] a w (Nat.zero_le _) rfl h rfl hg ?_
      intro s' lg' a' w' h1 h2
      exact hK .normal _ a' w' h1 h2
    | true =>
      simp only [aexec, cond_true] at h
      exact region_any_sound hE hd (by simpa using hb) h hg (fun e s' a' w' h1 h2 => by
        have := hK e s' a' w' h1 h2
        cases e <;> exact this)
  | .seq x y, hf, hl, s, K, a, w, Q, h, hg, hK => by
    simp only [codeFit, Bool.and_eq_true] at hf
    refine wp_seq (exec_sound hE hJ hL x hf.1 (fun d hd => hl d (List.mem_append.2 (.inl hd))) s _ a w _ h hg ?_)
    intro e s' a' w' h1 h2
    cases e with
    | normal => exact exec_sound hE hJ hL y hf.2 (fun d hd => hl d (List.mem_append.2 (.inr hd))) s' K a' w' Q h1 h2 hK
    | exit id => exact hK (.exit id) s' a' w' h1 h2
    | ret => exact hK .ret s' a' w' h1 h2
  | .cond c x y, hf, hl, s, K, a, w, Q, h, hg, hK => by
    simp only [codeFit, Bool.and_eq_true] at hf
    have hx := exec_sound hE hJ hL x hf.1 (fun d hd => hl d (List.mem_append.2 (.inl hd)))
    have hy := exec_sound hE hJ hL y hf.2 (fun d hd => hl d (List.mem_append.2 (.inr hd)))
    have hgI := hg
    obtain ⟨S, H, N, hI, hN⟩ := hgI
    simp only [aexec] at h
    split at h
    · rename_i d p hev
      have hc := bool_inv' hI hev
      have hs : slq s.slot d = .val .bool p := hev
      cases p with
      | true => exact wp_cond_true hc (hx _ K a w Q h (same_good hs hg) hK)
      | false => exact wp_cond_false hc (hy _ K a w Q h (same_good hs hg) hK)
    · rename_i p _ hev
      have hc := bool_inv' hI hev
      cases p with
      | true => exact wp_cond_true hc (hx s K a w Q h hg hK)
      | false => exact wp_cond_false hc (hy s K a w Q h hg hK)
    · rename_i d sense ne hev
      have hs : slq s.slot d = .nb sense ne := hev
      have hd4 := (slq_lt hs (by simp)).1
      have hv := hI.slq d
      rw [hs] at hv
      obtain ⟨p, hp, hne⟩ : ∃ p, a.tmps.getD d undef = .bool p ∧ (ne = true → p = !sense) := by
        revert hv
        generalize a.tmps.getD d undef = u
        intro hv
        cases hv with
        | nb _ _ p h => exact ⟨p, rfl, h⟩
      have hc : a.eval (.tmp d) = .bool p := hp
      have ht : aexec E J L x (s.put (some d) (.val .bool true) []) K = some r → p = true → (Code.cond (.tmp d) x y).wp C.P Q a w := by
        intro h1 e
        subst e
        exact wp_cond_true hc (hx _ K a w Q h1 (put_good hd4 hp hg) hK)
      have hf' : aexec E J L y (s.put (some d) (.val .bool false) []) K = some r → p = false → (Code.cond (.tmp d) x y).wp C.P Q a w := by
        intro h1 e
        subst e
        exact wp_cond_false hc (hy _ K a w Q h1 (put_good hd4 hp hg) hK)
      cases ne with
      | true =>
        simp only [cond_true] at h
        cases sense with
        | true => exact hf' h (hne rfl)
        | false => exact ht h (hne rfl)
      | false =>
        simp only [cond_false] at h
        obtain ⟨h1, h2⟩ := both_some h
        cases p with
        | true => exact ht h1 rfl
        | false => exact hf' h2 rfl
    · cases h
  | .block id c, hf, hl, s, K, a, w, Q, h, hg, hK => by
    refine wp_block (exec_sound hE hJ hL c hf hl s _ a w _ h hg ?_)
    intro e s' a' w' h1 h2
    cases e with
    | normal => exact hK .normal s' a' w' h1 h2
    | ret => exact hK .ret s' a' w' h1 h2
    | exit id' =>
      simp only [exOf, Exit.inBlock]
      by_cases hid : id' = id
      · subst hid
        rw [if_pos rfl]
        simp only [Nat.beq_refl, cond_true] at h1
        exact hK .normal s' a' w' h1 h2
      · rw [if_neg hid]
        simp only [beq_ne hid, cond_false] at h1
        exact hK (.exit id') s' a' w' h1 h2
  | .loop c, hf, hl, s, K, a, w, Q, h, hg, hK => by
    simp only [aexec] at h
    split at h
    · rename_i an han
      obtain ⟨n, hn⟩ := hL c an (hl c (by simp [loopsIn])) han _ _ _ h
      refine loop_sound (G := Good C) (fun s a w hg => normSt_good _ hg) (fun s a w hg => normSt_good _ hg) ?_ (fun e s' a' w' h1 h2 _ => hK e s' a' w' h1 h2) n _ a w hn (normSt_good _ hg)
      intro s' K' a' w' Q' h1 h2 h3
      exact exec_sound hE hJ hL c hf (fun d hd => hl d (by simp [loopsIn, hd])) s' K' a' w' Q' h1 h2 h3
    · cases h
end
end Go.AM
end

noncomputable section
namespace Go.AM
open Go.RowKit

section
variable {C : Ctx} {E : Env} {w : World} {S S' : Nat → Prop} {H : Nat → Loc} {N : Nat → Prop} {rt : Nat → Option Root} {io : List Nat} {a : Act} {fr : Nat → AV}

/-! ### the results -/
theorem OwnRel.ofFlat : ∀ (t : Ty) (x : t.den) (cs : List Value), t.flat = true → Rd w S t x cs → OwnRel w S t x cs []
  | .int _, _, _, _, h => ⟨h, rfl⟩
  | .bool, _, _, _, h => ⟨h, rfl⟩
  | .str, _, _, _, h => ⟨h, rfl⟩
  | .sl _ _, _, _, hf, _ => by simp [Ty.flat] at hf
  | .unit, _, _, _, h => ⟨h, rfl⟩
  | .pair a b, _, _, hf, ⟨c1, c2, h, h1, h2⟩ => by
    simp only [Ty.flat, Bool.and_eq_true] at hf
    exact ⟨c1, c2, [], [], h, rfl, OwnRel.ofFlat a _ _ hf.1 h1, OwnRel.ofFlat b _ _ hf.2 h2⟩
  | .arr n t, xs, _, hf, h => ⟨h, rfl⟩

def blk (H : Nat → Loc) (ns : List Nat) : List Nat := ns.filterMap fun n => (H n).g
theorem blk_append (ns ms : List Nat) : blk H (ns ++ ms) = blk H ns ++ blk H ms := by simp [blk]
theorem blocks_append (hs ks : List Loc) : blocks (hs ++ ks) = blocks hs ++ blocks ks := by simp [blocks]

theorem one_flat {t : Ty} (hf : t.flat = true) {c : AV} {v : Value} {x : t.den} (hroots : ∀ n r, rt n = some r → RootRel w S H N n r) (hv : VRel w S H N c v) (h : rd1 rt t c = some x) : Rd w S t x [v] :=
  Rd.flat t x [v] hf (rd1_rel (S' := fun _ => True) hroots (fun _ _ => trivial) t hv h (fun _ _ _ _ _ _ _ => trivial))

theorem ownCells_rel (hroots : ∀ n r, rt n = some r → RootRel w S H N n r) : ∀ (t : Ty) (cs cs' : List AV) (vs : List Value) (x : t.den) (ns : List Nat), VRels w S H N cs vs → ownCells rt t cs = some (x, cs', ns) →
    ∃ v1 v2 hs, vs = v1 ++ v2 ∧ OwnRel w S t x v1 hs ∧ VRels w S H N cs' v2 ∧ blocks hs = blk H ns ∧ ∀ n ∈ ns, ∃ e t l, rt n = some (.row e t l)
  | .unit, cs, cs', vs, x, ns, hv, h => by
    simp only [ownCells, Option.some.injEq, Prod.mk.injEq] at h
    obtain ⟨_, rfl, rfl⟩ := h
    exact ⟨[], vs, [], rfl, ⟨rfl, rfl⟩, hv, rfl, fun n hn => by cases hn⟩
  | .pair a b, cs, cs', vs, x, ns, hv, h => by
    simp only [ownCells] at h
    split at h
    · rename_i x1 cs1 n1 h1
      split at h
      · rename_i y1 cs2 m1 h2
        cases h
        obtain ⟨v1, v2, k1, rfl, ho1, hv2, hb1, hr1⟩ := ownCells_rel hroots a cs cs1 vs x1 n1 hv h1
        obtain ⟨u1, u2, k2, rfl, ho2, hu2, hb2, hr2⟩ := ownCells_rel hroots b cs1 cs' v2 y1 m1 hv2 h2
        refine ⟨v1 ++ u1, u2, k1 ++ k2, by simp, ⟨v1, u1, k1, k2, rfl, rfl, ho1, ho2⟩, hu2, by rw [blocks_append, blk_append, hb1, hb2], ?_⟩
        intro n hn
        rcases List.mem_append.1 hn with hn | hn
        · exact hr1 n hn
        · exact hr2 n hn
      · cases h
    · cases h
  | .arr n t, cs, cs', vs, x, ns, hv, h => by
    simp only [ownCells] at h
    cases hf : t.flat with
    | false => rw [hf] at h; cases h
    | true =>
      rw [hf] at h
      simp only [cond_true] at h
      split at h
      · rename_i x1 cs1 h1
        cases h
        obtain ⟨v1, v2, rfl, hrd, hv2, _⟩ := rdCells_rel (S' := fun _ => True) hroots (fun _ _ => trivial) (.arr n t) cs cs' vs x hv h1 (fun _ _ _ _ _ _ _ => trivial)
        exact ⟨v1, v2, [], rfl, ⟨Rd.flat (.arr n t) x v1 (by simpa [Ty.flat] using hf) hrd, rfl⟩, hv2, rfl, fun n hn => by cases hn⟩
      · cases h
  | .sl e t, [], _, _, _, _, _, h => by simp [ownCells] at h
  | .int k, [], _, _, _, _, _, h => by simp [ownCells] at h
  | .bool, [], _, _, _, _, _, h => by simp [ownCells] at h
  | .str, [], _, _, _, _, _, h => by simp [ownCells] at h
  | .sl e t, c :: cs, cs', vs, x, ns, hv, h => by
    obtain ⟨v, vs', rfl, hc, hcs⟩ := hv.inv
    simp only [ownCells] at h
    split at h
    · cases h
      have := hc.nils_inv
      subst this
      exact ⟨[_], vs', [⟨none, 0, t.cells, 0⟩], rfl, ⟨⟨none, 0, t.cells, 0⟩, rfl, ⟨rfl, rfl, [], World.ownsRow_nil w 0 e t.cells, rfl⟩, rfl⟩, hcs, rfl, fun n hn => by cases hn⟩
    · rename_i n
      split at h
      · rename_i e' t' l hlk
        split at h
        · rename_i he
          subst he
          split at h
          · rename_i l' hcast
            cases h
            obtain ⟨rfl, he⟩ := cast_sl hcast
            cases he
            cases hc
            refine ⟨[(H n).hdr], vs', [H n], rfl, ⟨H n, rfl, hroots n _ hlk, rfl⟩, hcs, ?_, ?_⟩
            · simp only [blocks, blk, List.filterMap_cons, List.filterMap_nil]
            · intro m hm
              simp only [List.mem_singleton] at hm
              subst hm
              exact ⟨_, _, _, hlk⟩
          · cases h
        · cases h
      · cases h
    · cases h
  | .int k, c :: cs, cs', vs, x, ns, hv, h => by
    obtain ⟨v, vs', rfl, hc, hcs⟩ := hv.inv
    simp only [ownCells] at h
    split at h
    · rename_i y h1
      cases h
      exact ⟨[v], vs', [], rfl, ⟨one_flat (t := .int k) rfl hroots hc h1, rfl⟩, hcs, rfl, fun n hn => by cases hn⟩
    · cases h
  | .bool, c :: cs, cs', vs, x, ns, hv, h => by
    obtain ⟨v, vs', rfl, hc, hcs⟩ := hv.inv
    simp only [ownCells] at h
    split at h
    · rename_i y h1
      cases h
      exact ⟨[v], vs', [], rfl, ⟨one_flat (t := .bool) rfl hroots hc h1, rfl⟩, hcs, rfl, fun n hn => by cases hn⟩
    · cases h
  | .str, c :: cs, cs', vs, x, ns, hv, h => by
    obtain ⟨v, vs', rfl, hc, hcs⟩ := hv.inv
    simp only [ownCells] at h
    split at h
    · rename_i y h1
      cases h
      exact ⟨[v], vs', [], rfl, ⟨one_flat (t := .str) rfl hroots hc h1, rfl⟩, hcs, rfl, fun n hn => by cases hn⟩
    · cases h

theorem toVal_single {t : Ty} (ht : t.comp = false) {c : AV} {v : Value} {cs : List Value} (hv : VRel w S H N c v) (h : [v] = cs) : v = toVal t cs := by
  subst h; simp [toVal, ht]

theorem ownTV_rel (hroots : ∀ n r, rt n = some r → RootRel w S H N n r) {t : Ty} {c : AV} {v : Value} {x : t.den} {ns : List Nat} (hv : VRel w S H N c v) (h : ownTV rt t c = some (x, ns)) :
    ∃ cs hs, v = toVal t cs ∧ OwnRel w S t x cs hs ∧ blocks hs = blk H ns ∧ ∀ n ∈ ns, ∃ e t l, rt n = some (.row e t l) := by
  have other : ∀ {c : AV} {v : Value}, VRel w S H N c v → (bif t.comp then none else ownOne rt t c) = some (x, ns) →
      ∃ cs hs, v = toVal t cs ∧ OwnRel w S t x cs hs ∧ blocks hs = blk H ns ∧ ∀ n ∈ ns, ∃ e t l, rt n = some (.row e t l) := by
    intro c v hv h
    cases ht : t.comp with
    | true => rw [ht] at h; cases h
    | false =>
      rw [ht] at h
      simp only [cond_false, ownOne] at h
      split at h
      · rename_i y n hy
        cases h
        obtain ⟨v1, v2, hs, he, ho, hv2, hb, hr⟩ := ownCells_rel hroots t [c] [] [v] x ns (.cons _ _ _ _ hv .nil) hy
        cases hv2
        rw [List.append_nil] at he
        exact ⟨v1, hs, toVal_single ht hv he, ho, hb, hr⟩
      · cases h
  cases hv with
  | val t' x' cs hr =>
    simp only [ownTV] at h
    cases hf : t'.flat with
    | false => rw [hf] at h; cases h
    | true =>
      rw [hf] at h
      simp only [cond_true] at h
      split at h
      · rename_i y hy
        cases h
        obtain ⟨rfl, he⟩ := castTy_eq hy
        cases he
        exact ⟨cs, [], rfl, OwnRel.ofFlat _ _ _ hf hr, rfl, fun n hn => by cases hn⟩
      · cases h
  | agg cs vs hs h1 =>
    simp only [ownTV] at h
    cases ht : t.comp with
    | false => rw [ht] at h; cases h
    | true =>
      rw [ht] at h
      simp only [cond_true] at h
      split at h
      · rename_i y n hy
        cases h
        obtain ⟨v1, v2, ks, rfl, ho, hv2, hb, hr⟩ := ownCells_rel hroots t cs [] vs x ns hs hy
        cases hv2
        exact ⟨v1, ks, by simp [toVal, ht], ho, hb, hr⟩
      · cases h
  | undef v => exact other (.undef v) (by simpa only [ownTV] using h)
  | nils => exact other .nils (by simpa only [ownTV] using h)
  | ref n hn => exact other (.ref n hn) (by simpa only [ownTV] using h)
  | part n o k A c h1 h2 h3 h4 => exact other (.part n o k A c h1 h2 h3 h4) (by simpa only [ownTV] using h)
  | tup cs vs hs => exact other (.tup cs vs hs) (by simpa only [ownTV] using h)
  | pc n o g h1 h2 => exact other (.pc n o g h1 h2) (by simpa only [ownTV] using h)
  | pa n g h1 h2 => exact other (.pa n g h1 h2) (by simpa only [ownTV] using h)
  | pe n i j g h1 h2 => exact other (.pe n i j g h1 h2) (by simpa only [ownTV] using h)
  | pv cs o g p vs h1 h2 h3 h4 => exact other (.pv cs o g p vs h1 h2 h3 h4) (by simpa only [ownTV] using h)
  | fn f cs vs h1 => exact other (.fn f cs vs h1) (by simpa only [ownTV] using h)
  | nb s n p h1 => exact other (.nb s n p h1) (by simpa only [ownTV] using h)
  | pw t x g p cs h1 h2 h3 => exact other (.pw t x g p cs h1 h2 h3) (by simpa only [ownTV] using h)

theorem getRes_rel (hroots : ∀ n r, rt n = some r → RootRel w S H N n r) (hS : ∀ b, S b → S' b) : ∀ (rs : List RTy) (vs : List AV) (us : List Value) (r : Res rs) (ns : List Nat), VRels w S H N vs us → getRes rt rs vs = some (r, ns) →
    (∀ n ∈ stbRefs rs vs, ∀ r, rt n = some r → r.own = true → ∀ g, (H n).g = some g → S' g) →
    ∃ hs, ResRel w S' rs r us hs ∧ blocks hs = blk H ns ∧ ∀ n ∈ ns, ∃ e t l, rt n = some (.row e t l)
  | [], [], _, _, ns, .nil, h, _ => by
    simp only [getRes, Option.some.injEq, Prod.mk.injEq] at h
    obtain ⟨_, rfl⟩ := h
    exact ⟨[], ⟨rfl, rfl⟩, rfl, fun n hn => by cases hn⟩
  | [], _ :: _, _, _, _, _, h, _ => by simp [getRes] at h
  | .own _ :: _, [], _, _, _, _, h, _ => by simp [getRes] at h
  | .stb _ :: _, [], _, _, _, _, h, _ => by simp [getRes] at h
  | .own t :: ts, v :: vs, _, r, ns, .cons _ u _ us hv hvs, h, href => by
    simp only [getRes] at h
    split at h
    · rename_i x n rr m h1 h2
      cases h
      obtain ⟨cs, k1, he, ho, hb, hr⟩ := ownTV_rel hroots hv h1
      obtain ⟨k2, hres, hb2, hr2⟩ := getRes_rel hroots hS ts vs us rr m hvs h2 (fun n hn => href n (by simpa only [stbRefs] using hn))
      refine ⟨k1 ++ k2, ⟨cs, us, k1, k2, by rw [he], rfl, ho.wider hS t x cs k1, hres⟩, by rw [blocks_append, blk_append, hb, hb2], ?_⟩
      intro k hk
      rcases List.mem_append.1 hk with hk | hk
      · exact hr k hk
      · exact hr2 k hk
    · cases h
  | .stb t :: ts, v :: vs, _, r, ns, .cons _ u _ us hv hvs, h, href => by
    simp only [getRes] at h
    split at h
    · rename_i x rr m h1 h2
      cases h
      obtain ⟨cs, hrd, he⟩ := rdTV_rel hroots hS hv h1 (fun n hn => href n (by simp only [stbRefs]; exact List.mem_append.2 (.inl hn)))
      obtain ⟨k2, hres, hb2, hr2⟩ := getRes_rel hroots hS ts vs us rr ns hvs h2 (fun n hn => href n (by simp only [stbRefs]; exact List.mem_append.2 (.inr hn)))
      exact ⟨k2, ⟨cs, us, by rw [he], hrd, hres⟩, hb2, hr2⟩
    · cases h

theorem getOuts_rel {S1 : Nat → Prop} (hroots : ∀ n r, rt n = some r → RootRel w S H N n r) : ∀ (ps : List PTy) (args : Args ps) (w0 : World) (S0 : Nat → Prop) (vs0 : List Value) (hs : List Loc) (ns : List Nat) (o : Outs ps), ArgRel w0 S0 ps args vs0 hs → ns.map (fun n => (H n).hdr) = hs.map Loc.hdr → getOuts rt ps ns = some o →
    (∀ b, S b → S1 b) → (∀ n ∈ outRefs rt ps ns, ∀ r, rt n = some r → r.own = true → ∀ g, (H n).g = some g → S1 g) → OutRel w S1 ps o hs ∧ ∀ n ∈ ns, ∃ r, rt n = some r ∧ r.own = true
  | [], _, _, _, _, hs, ns, o, ⟨_, h⟩, he, _, _, _ => by
    subst h
    have : ns = [] := by simpa using he
    subst this
    exact ⟨rfl, fun n hn => by cases hn⟩
  | .ro t :: ps, (x, r), w0, S0, _, hs, ns, o, ⟨cs, vs', _, _, hr⟩, he, h, hS, hR => getOuts_rel hroots ps r w0 S0 vs' hs ns o hr he h hS (fun n hn => hR n (by simpa only [outRefs] using hn))
  | .fnc t :: ps, r, w0, S0, _, hs, ns, o, ⟨vs', _, hr⟩, he, h, hS, hR => getOuts_rel hroots ps r w0 S0 vs' hs ns o hr he h hS (fun n hn => hR n (by simpa only [outRefs] using hn))
  | .io e t :: ps, (x, r), w0, S0, _, _, [], o, ⟨h0, vs', hs', _, e2, hro, hr⟩, he, h, _, _ => by subst e2; simp at he
  | .ptr t :: ps, (x, r), w0, S0, _, _, [], o, ⟨h0, vs', hs', _, e2, hro, hr⟩, he, h, _, _ => by subst e2; simp at he
  | .io e t :: ps, (x, r), w0, S0, _, _, n :: ns, o, ⟨h0, vs', hs', _, e2, hro, hr⟩, he, h, hS, hR => by
    subst e2
    simp only [List.map_cons, List.cons.injEq] at he
    simp only [getOuts] at h
    split at h
    · rename_i e' t' l oo hlk ho
      split at h
      · rename_i hee
        subst hee
        split at h
        · rename_i l' hcast
          cases h
          obtain ⟨rfl, hh⟩ := cast_sl hcast
          cases hh
          obtain ⟨hor, hns⟩ := getOuts_rel hroots ps r w0 S0 vs' hs' ns oo hr he.2 ho hS (fun m hm => hR m (by simpa only [outRefs] using hm))
          have hrow : RowOwn w S e' t' l (H n) := hroots n _ hlk
          have hsz : (H n).sz = h0.sz := hrow.2.1.trans hro.2.1.symm
          have heq : H n = h0 := by
            have h1 := he.1
            generalize H n = k at h1 hsz
            obtain ⟨g, cap, sz, len⟩ := k
            obtain ⟨g', cap', sz', len'⟩ := h0
            simp only [Loc.hdr, Value.slice.injEq] at h1
            obtain ⟨h1, h2, h3⟩ := h1
            simp only at hsz
            subst h2 h3 hsz
            cases g <;> cases g' <;> simp_all
          rw [heq] at hrow
          refine ⟨⟨h0, hs', rfl, hrow.wider hS, hor⟩, ?_⟩
          intro m hm
          rcases List.mem_cons.1 hm with rfl | hm
          · exact ⟨_, hlk, rfl⟩
          · exact hns m hm
        · cases h
      · cases h
    · cases h
  | .ptr t :: ps, (x, r), w0, S0, _, _, n :: ns, o, ⟨h0, vs', hs', _, e2, hro, hr⟩, he, h, hS, hR => by
    subst e2
    simp only [List.map_cons, List.cons.injEq] at he
    simp only [getOuts] at h
    split at h
    · rename_i cs oo hlk ho
      split at h
      · rename_i y hy
        cases h
        obtain ⟨hor, hns⟩ := getOuts_rel hroots ps r w0 S0 vs' hs' ns oo hr he.2 ho hS (fun m hm => hR m (by simp only [outRefs]; exact List.mem_append.2 (.inr hm)))
        obtain ⟨g, T, ds, h1, h2, h3, h4⟩ : CellRel w S H N cs (H n) := hroots n _ hlk
        obtain ⟨v1, v2, rfl, hrd, hv2, _⟩ := rdCells_rel hroots hS t cs [] ds y h3 hy (fun m hm => hR m (by simp only [outRefs, hlk]; exact List.mem_append.2 (.inl hm)))
        cases hv2
        rw [List.append_nil] at h2
        have hg0 : h0.g = some g := by
          have e1 := he.1
          simp only [Loc.hdr, Value.slice.injEq] at e1
          rw [h1] at e1
          cases hq : h0.g with
          | none => rw [hq] at e1; simp at e1
          | some g' => rw [hq] at e1; simp at e1; rw [e1.1]
        refine ⟨⟨h0, hs', rfl, ⟨g, T, v1, hg0, h2, hrd⟩, hor⟩, ?_⟩
        intro m hm
        rcases List.mem_cons.1 hm with rfl | hm
        · exact ⟨_, hlk, rfl⟩
        · exact hns m hm
      · cases h
    · cases h
end
end Go.AM
end

noncomputable section
namespace Go.AM
open Go.RowKit

section
variable {w : World} {S : Nat → Prop}

theorem blocks_inj : ∀ {hs : List Loc}, (blocks hs).Nodup → ∀ (i j : Nat) (h k : Loc) (g : Nat), hs[i]? = some h → hs[j]? = some k → i ≠ j → h.g = some g → k.g ≠ some g
  | [], _, i, _, _, _, _, hi, _, _, _ => by simp at hi
  | x :: hs, hnd, i, j, h, k, g, hi, hj, hij, hg => by
    have hnd' : (blocks hs).Nodup ∧ ∀ g, x.g = some g → g ∉ blocks hs := by
      simp only [blocks, List.filterMap_cons] at hnd
      cases hx : x.g with
      | none => rw [hx] at hnd; exact ⟨hnd, fun g e => by cases e⟩
      | some g =>
        rw [hx] at hnd
        have := List.nodup_cons.1 hnd
        exact ⟨this.2, fun g' e => by cases e; exact this.1⟩
    have mem : ∀ {l : Loc} {n : Nat}, hs[n]? = some l → ∀ g, l.g = some g → g ∈ blocks hs := fun hn g e => List.mem_filterMap.2 ⟨_, List.mem_of_getElem? hn, e⟩
    intro hk
    cases i with
    | zero =>
      simp only [List.getElem?_cons_zero, Option.some.injEq] at hi
      subst hi
      cases j with
      | zero => exact hij rfl
      | succ j => exact hnd'.2 g hg (mem (by simpa using hj) g hk)
    | succ i =>
      cases j with
      | zero =>
        simp only [List.getElem?_cons_zero, Option.some.injEq] at hj
        subst hj
        exact hnd'.2 g hk (mem (by simpa using hi) g hg)
      | succ j => exact blocks_inj hnd'.1 i j h k g (by simpa using hi) (by simpa using hj) (by omega) hg hk

theorem begGo_rel : ∀ (ps : List PTy) (args : Args ps) (vs : List Value) (hs : List Loc) (i n : Nat), ArgRel w S ps args vs hs →
    (begGo ps args i n).2.2 = n + hs.length ∧
    (∀ p ∈ (begGo ps args i n).1, i ≤ p.1 ∧ ∃ v, vs[p.1 - i]? = some v ∧ ∀ H N, Named H N n hs → VRel w S H N p.2 v) ∧
    (∀ p ∈ (begGo ps args i n).2.1, n ≤ p.1 ∧ ∃ d h, p.2 = some (RowD.root d) ∧ hs[p.1 - n]? = some h ∧ DRel w S d h)
  | [], _, _, _, i, n, ⟨h1, h2⟩ => by
    subst h1
    subst h2
    refine ⟨rfl, ?_, ?_⟩
    · intro p hp; cases hp
    · intro p hp; cases hp
  | .ro t :: ps, (x, r), _, hs, i, n, ⟨cs, vs', e, hrd, hr⟩ => by
    subst e
    obtain ⟨h1, h2, h3⟩ := begGo_rel ps r vs' hs (i + 1) n hr
    refine ⟨h1, ?_, h3⟩
    intro p hp
    simp only [begGo] at hp
    rcases List.mem_cons.1 hp with rfl | hp
    · exact ⟨Nat.le_refl _, toVal t cs, by simp, fun H N _ => .val t x cs hrd⟩
    · obtain ⟨h4, v, h5, h6⟩ := h2 p hp
      refine ⟨by omega, v, ?_, h6⟩
      have e : p.1 - i = (p.1 - (i + 1)) + 1 := by omega
      rw [e, List.getElem?_cons_succ]
      exact h5
  | .io e t :: ps, (x, r), _, _, i, n, ⟨h, vs', hs', e1, e2, hro, hr⟩ => by
    subst e1
    subst e2
    obtain ⟨h1, h2, h3⟩ := begGo_rel ps r vs' hs' (i + 1) (n + 1) hr
    refine ⟨?_, ?_, ?_⟩
    · simp only [begGo, List.length_cons]
      rw [h1]; omega
    · intro p hp
      simp only [begGo] at hp
      rcases List.mem_cons.1 hp with rfl | hp
      · refine ⟨Nat.le_refl _, h.hdr, by simp, fun H N hn => ?_⟩
        have := hn 0 h rfl
        simp only [Nat.add_zero] at this
        have hv := VRel.ref (w := w) (S := S) (H := H) (N := N) n this.1
        rw [this.2] at hv
        exact hv
      · obtain ⟨h4, v, h5, h6⟩ := h2 p hp
        refine ⟨by omega, v, ?_, fun H N hn => h6 H N ?_⟩
        · have e : p.1 - i = (p.1 - (i + 1)) + 1 := by omega
          rw [e, List.getElem?_cons_succ]
          exact h5
        · intro j k hj
          have := hn (j + 1) k (by simpa using hj)
          have e : n + 1 + j = n + (j + 1) := by omega
          rw [e]; exact this
    · intro p hp
      simp only [begGo] at hp
      rcases List.mem_cons.1 hp with rfl | hp
      · exact ⟨Nat.le_refl _, .row e t x, h, rfl, by simp, hro⟩
      · obtain ⟨h4, d', h', h5, h6, h7⟩ := h3 p hp
        refine ⟨by omega, d', h', h5, ?_, h7⟩
        have e : p.1 - n = (p.1 - (n + 1)) + 1 := by omega
        rw [e, List.getElem?_cons_succ]
        exact h6
  | .ptr t :: ps, (x, r), _, _, i, n, ⟨h, vs', hs', e1, e2, hro, hr⟩ => by
    subst e1
    subst e2
    obtain ⟨h1, h2, h3⟩ := begGo_rel ps r vs' hs' (i + 1) (n + 1) hr
    refine ⟨?_, ?_, ?_⟩
    · simp only [begGo, List.length_cons]
      rw [h1]; omega
    · intro p hp
      simp only [begGo] at hp
      rcases List.mem_cons.1 hp with rfl | hp
      · refine ⟨Nat.le_refl _, h.ptr, by simp, fun H N hn => ?_⟩
        have := hn 0 h rfl
        simp only [Nat.add_zero] at this
        obtain ⟨g, T, cs, hg, _, _⟩ := hro
        have hv := VRel.pc (w := w) (S := S) (H := H) (N := N) n 0 g this.1 (by rw [this.2]; exact hg)
        simp only [Loc.ptr, hg, Option.map_some]
        exact hv
      · obtain ⟨h4, v, h5, h6⟩ := h2 p hp
        refine ⟨by omega, v, ?_, fun H N hn => h6 H N ?_⟩
        · have e : p.1 - i = (p.1 - (i + 1)) + 1 := by omega
          rw [e, List.getElem?_cons_succ]
          exact h5
        · intro j k hj
          have := hn (j + 1) k (by simpa using hj)
          have e : n + 1 + j = n + (j + 1) := by omega
          rw [e]; exact this
    · intro p hp
      simp only [begGo] at hp
      rcases List.mem_cons.1 hp with rfl | hp
      · exact ⟨Nat.le_refl _, .cel t x, h, rfl, by simp, hro⟩
      · obtain ⟨h4, d', h', h5, h6, h7⟩ := h3 p hp
        refine ⟨by omega, d', h', h5, ?_, h7⟩
        have e : p.1 - n = (p.1 - (n + 1)) + 1 := by omega
        rw [e, List.getElem?_cons_succ]
        exact h6
  | .fnc f :: ps, r, _, hs, i, n, ⟨vs', e, hr⟩ => by
    subst e
    obtain ⟨h1, h2, h3⟩ := begGo_rel ps r vs' hs (i + 1) n hr
    refine ⟨h1, ?_, h3⟩
    intro p hp
    simp only [begGo] at hp
    rcases List.mem_cons.1 hp with rfl | hp
    · exact ⟨Nat.le_refl _, .func (.func f) #[] #[], by simp, fun H N _ => .fn f [] [] .nil⟩
    · obtain ⟨h4, v, h5, h6⟩ := h2 p hp
      refine ⟨by omega, v, ?_, h6⟩
      have e : p.1 - i = (p.1 - (i + 1)) + 1 := by omega
      rw [e, List.getElem?_cons_succ]
      exact h5
end

section
variable {C : Ctx} {E : Env} {w : World} {S : Nat → Prop} {H : Nat → Loc} {N : Nat → Prop} {a : Act}

/-- The result variables, read. -/
theorem resVals_rel {s : St} (hI : Inv C S H N s.slot s.root s.io a w) : ∀ (rs : List ResultVar) (vs : List AV), resVals E s rs = some vs →
    ∃ us, VRels w S H N vs us ∧ ∀ g : ResultVar → Sem Value, (∀ t, g (.tmp t) = pure (a.tmps.getD t undef)) → (∀ x t, g (.cell x t) = (do loadVar t (← asAddr (a.tmps.getD x undef)))) → (rs.mapM g).run E.P w = .ok us w
  | [], vs, h => by
    simp only [resVals, Option.some.injEq] at h
    subst h
    exact ⟨[], .nil, fun g _ _ => rfl⟩
  | x :: rs, vs, h => by
    simp only [resVals] at h
    split at h
    · rename_i v vs' h1 h2
      cases h
      obtain ⟨us, hus, hrun⟩ := resVals_rel hI rs vs' h2
      have hx : ∃ u, VRel w S H N v u ∧ ∀ g : ResultVar → Sem Value, (∀ t, g (.tmp t) = pure (a.tmps.getD t undef)) → (∀ x t, g (.cell x t) = (do loadVar t (← asAddr (a.tmps.getD x undef)))) → (g x).run E.P w = .ok u w := by
        cases x with
        | tmp t =>
          simp only [resVal, Option.some.injEq] at h1
          subst h1
          exact ⟨_, hI.slq t, fun g h1 _ => by rw [h1]; rfl⟩
        | cell ad t =>
          simp only [resVal] at h1
          split at h1
          · rename_i d sz b z hd hinf
            split at h1
            · rename_i v' lg hl
              cases h1
              obtain ⟨u, hr, hv⟩ := load_sound (E := E) (hI.slq ad) hI.roots hd hinf hl
              refine ⟨u, hv, fun g _ hg2 => ?_⟩
              have hptr : ∃ q, a.tmps.getD ad undef = .pointer (some q) := by
                have hs := hI.slq ad
                unfold loadEff at hl
                split at hl
                · rename_i e; rw [e] at hs; exact hs.ptr_inv (.inl ⟨_, _, rfl⟩)
                · rename_i e; rw [e] at hs; exact hs.ptr_inv (.inr (.inl ⟨_, rfl⟩))
                · rename_i e; rw [e] at hs; exact hs.ptr_inv (.inr (.inr (.inl ⟨_, _, _, rfl⟩)))
                · rename_i e; rw [e] at hs; exact hs.ptr_inv (.inr (.inr (.inr ⟨_, _, rfl⟩)))
                · cases hl
              obtain ⟨q, hq⟩ := hptr
              rw [hq] at hr
              rw [hg2]
              simp only [hq, asAddr, Sem.run_bind, Sem.run_pure, Result.andThen_ok]
              simpa [Instr.loadAt, Instr.sureAddr] using hr
            · cases h1
          · cases h1
      obtain ⟨u, hu, hru⟩ := hx
      refine ⟨u :: us, .cons _ _ _ _ hu hus, fun g hg1 hg2 => ?_⟩
      rw [List.mapM_cons]
      simp only [Sem.run_bind, hru g hg1 hg2, Result.andThen_ok, hrun g hg1 hg2, Sem.run_pure]
    · cases h

theorem results_run {fn : Func} {s : St} (hI : Inv C S H N s.slot s.root s.io a w) {vs : List AV} (h : resVals E s fn.results.toList = some vs) :
    ∃ us, VRels w S H N vs us ∧ (results fn a.tmps).run E.P w = .ok (oneVal us) w := by
  obtain ⟨us, hus, hrun⟩ := resVals_rel hI _ _ h
  refine ⟨us, hus, ?_⟩
  unfold results
  rw [Array.mapM_eq_mapM_toList]
  simp only [Sem.run_bind, Sem.run_map]
  rw [hrun _ (fun _ => rfl) (fun _ _ => rfl)]
  rcases us with _ | ⟨u, _ | ⟨u', us⟩⟩
  · simp [oneVal]
  · simp [oneVal]
  · simp [oneVal]

/-- A function whose run on the abstract machine is known keeps its contract. -/
theorem func_sound {P : Program} {f : Nat} {fn : Func} {code : Code} {ps : List PTy} {rs : List RTy} {fnc : Args ps → Option (Res rs × Outs ps)} {J : Inl (Res rs × Outs ps)} {L : Nat → St → (AExit → St → Option (Res rs × Outs ps)) → Option (Res rs × Outs ps)}
    (hP : E.P = P) (hmix : P.follows .mixedOrders = true) (hnt : E.nt = fn.ntmps) (hnt4 : Nat.ble fn.ntmps 4096 = true) (htbl : ∀ f en, E.tbl f = some en → Sound P f en) (hf : P.funcs[f]? = some fn) (hb : fn.body = some code) (hname : (fn.name == "runtime.NumGoroutine") = false)
    (hfit : codeFit E code = true) (hloops : ∀ d ∈ loopsIn code, findLoop (firstRegion d) code = some d) (hJ : ∀ C : Ctx, C.P = P → ∀ r, InlOk C J r) (hL : LoopsOk E J L code)
    (heq : ∀ args, aexec E J L code (begSt ps args) (finK E fn ps rs) = fnc args) : Sound P f ⟨ps, rs, fnc⟩ := by
  refine ⟨⟨fn, code, hf, hb, hname⟩, ?_⟩
  intro w S0 args vs hs r hr harg hS0 hnd hblk
  refine calls_of_wp hf hb ?_
  let a0 : Act := { tmps := vs.toArray ++ Array.replicate (fn.ntmps - vs.toArray.size) undef, defers := [] }
  let C : Ctx := ⟨P, w, S0, blocks hs, hs.map Loc.hdr, fn.ntmps, Nat.le_of_ble_eq_true hnt4, fun j => a0.tmps.getD (j + 4096) undef⟩
  have hval : ∀ i, C.val a0 i = a0.tmps.getD i undef := by
    intro i
    unfold Ctx.val
    split
    · rfl
    · show a0.tmps.getD (i - 4096 + 4096) undef = _
      congr 1
      omega
  have hE : EnvOk C E := ⟨hP.symm, hnt.symm, htbl, hmix⟩
  obtain ⟨hm, hslots, hroots⟩ := begGo_rel (w := w) (S := S0) ps args vs hs 0 0 harg
  simp only [Nat.zero_add] at hm
  let H0 : Nat → Loc := fun n => hs.getD n ⟨none, 0, 0, 0⟩
  have hnamed : Named H0 (fun n => n < hs.length) 0 hs := by
    intro i h hi
    rw [Nat.zero_add]
    refine ⟨(List.getElem?_eq_some_iff.1 hi).1, ?_⟩
    show hs.getD i _ = h
    rw [List.getD_eq_getElem?_getD, hi]; rfl
  have hbeg : (begSt ps args).slot = look .undef (begGo ps args 0 0).1 ∧ (begSt ps args).root = look none (begGo ps args 0 0).2.1 ∧ (begSt ps args).io = List.range hs.length ∧ (begSt ps args).nx = hs.length := by
    refine ⟨rfl, rfl, ?_, hm⟩
    show List.range (begGo ps args 0 0).2.2 = _
    rw [hm]
  have hrow : ∀ n r', (begSt ps args).root n = some r' → ∃ d h, r' = RowD.root d ∧ hs[n]? = some h ∧ DRel w S0 d h ∧ H0 n = h := by
    intro n r' hn
    rw [hbeg.2.1] at hn
    rcases look_mem (d := (none : Option Root)) (l := (begGo ps args 0 0).2.1) (n := n) with e | e
    · rw [e] at hn; cases hn
    · rw [hn] at e
      obtain ⟨_, d', h', h5, h6, h7⟩ := hroots _ e
      cases h5
      simp only [Nat.sub_zero] at h6
      have := hnamed n h' h6
      rw [Nat.zero_add] at this
      exact ⟨d', h', rfl, h6, h7, this.2⟩
  have hgmem : ∀ (n : Nat) (h : Loc) (g : Nat), hs[n]? = some h → h.g = some g → g ∈ blocks hs := fun n h g hn hg => List.mem_filterMap.2 ⟨h, List.mem_of_getElem? hn, hg⟩
  have hgood : Good C (begSt ps args) { tmps := vs.toArray ++ Array.replicate (fn.ntmps - vs.toArray.size) undef, defers := [] } w := by
    refine ⟨S0, H0, fun n => n < hs.length, ?_, fun n hn => by rw [hbeg.2.2.2]; exact hn⟩
    constructor
    · intro i
      show VRel _ _ _ _ _ (C.val a0 i)
      rw [hval, hbeg.1]
      rcases look_mem (d := AV.undef) (l := (begGo ps args 0 0).1) (n := i) with e | e
      · rw [e]; exact .undef _
      · obtain ⟨_, v, h5, h6⟩ := hslots _ e
        simp only [Nat.sub_zero] at h5
        have hlt := (List.getElem?_eq_some_iff.1 h5).1
        have : (vs.toArray ++ Array.replicate (fn.ntmps - vs.toArray.size) undef).getD i undef = v := by
          rw [Array.getD_eq_getD_getElem?, Array.getElem?_append_left (by simpa using hlt)]
          simp [h5]
        show VRel _ _ _ _ _ ((vs.toArray ++ Array.replicate (fn.ntmps - vs.toArray.size) undef).getD i undef)
        rw [this]
        exact h6 H0 _ hnamed
    · intro n r' hn
      obtain ⟨d, h, rfl, h1, h2, h3⟩ := hrow n r' hn
      exact h2.root h3
    · intro n r' hn
      obtain ⟨d, h, rfl, h1, h2, h3⟩ := hrow n r' hn
      exact (List.getElem?_eq_some_iff.1 h1).1
    · intro n r' hn ho g hg
      obtain ⟨d, h, rfl, h1, h2, h3⟩ := hrow n r' hn
      rw [h3] at hg
      have := hgmem n h g h1 hg
      exact ⟨(hblk g this).1, .inr this⟩
    · intro n r' hn g hg
      obtain ⟨d, h, rfl, h1, h2, h3⟩ := hrow n r' hn
      rw [h3] at hg
      exact (hblk g (hgmem n h g h1 hg)).2
    · intro n m r1 r2 e1 e2 _ _ hnm g hg
      obtain ⟨_, h, rfl, h1, _, h3⟩ := hrow n r1 e1
      obtain ⟨_, k, rfl, k1, _, k3⟩ := hrow m r2 e2
      rw [h3] at hg
      rw [k3]
      exact blocks_inj hnd n m h k g h1 k1 hnm hg
    · exact hS0
    · exact fun b hb => hb
    · exact fun b hb => .inl hb
    · exact ⟨rfl, rfl, rfl, Nat.le_refl _, fun _ _ _ => rfl⟩
    · show fn.ntmps ≤ (vs.toArray ++ Array.replicate (fn.ntmps - vs.toArray.size) undef).size
      simp
      omega
    · rfl
    · rw [hbeg.2.2.1]
      show (List.range hs.length).map (fun n => (H0 n).hdr) = hs.map Loc.hdr
      apply List.ext_getElem
      · simp
      · intro i h1 h2
        simp at h1
        simp [H0, h1]
    · intro n hn
      rw [hbeg.2.2.1] at hn
      exact List.mem_range.1 hn
    · rw [hbeg.2.2.1]; exact List.nodup_range
  have hrun : aexec E J L code (begSt ps args) (finK E fn ps rs) = some r := by rw [heq]; exact hr
  refine exec_sound hE (hJ C rfl r) hL code hfit hloops _ _ _ w _ hrun hgood ?_
  intro e s' a' w' hk hg
  obtain ⟨S, H, N, hI, _⟩ := hg
  have key : ∀ (r : Res rs × Outs ps), (match resVals E s' fn.results.toList with
      | some vs => match getRes s'.root rs vs, getOuts s'.root ps s'.io with
        | some (r, n), some o => bif nodupB (n ++ s'.io) && !meets (n ++ s'.io) (stbRefs rs vs ++ outRefs s'.root ps s'.io) then some (r, o) else none
        | _, _ => none
      | none => none) = some r → a'.defers = [] ∧ ∃ v, (results fn a'.tmps).run P w' = .ok v w' ∧ Left w w' S0 hs ⟨ps, rs, fnc⟩ r v := by
    intro r hk
    refine ⟨hI.def0, ?_⟩
    split at hk
    · rename_i avs havs
      obtain ⟨us, hus, hres⟩ := results_run (E := E) hI havs
      rw [hP] at hres
      split at hk
      · rename_i rr ns o hgr hgo
        cases hc : (nodupB (ns ++ s'.io) && !meets (ns ++ s'.io) (stbRefs rs avs ++ outRefs s'.root ps s'.io)) with
        | false => rw [hc] at hk; cases hk
        | true =>
          rw [hc] at hk
          cases hk
          simp only [Bool.and_eq_true, Bool.not_eq_true'] at hc
          have hnod := nodupB_iff hc.1
          have hmeet := meets_iff hc.2
          let S1 : Nat → Prop := fun b => S b ∨ ∃ n ∈ stbRefs rs avs ++ outRefs s'.root ps s'.io, ∃ r, s'.root n = some r ∧ r.own = true ∧ (H n).g = some b
          obtain ⟨hr2, hrel, hbl, hown⟩ := getRes_rel (S' := S1) hI.roots (fun b hb => .inl hb) rs avs us rr ns hus hgr (fun n hn r hr ho g hg => .inr ⟨n, List.mem_append.2 (.inl hn), r, hr, ho, hg⟩)
          obtain ⟨hout, hio⟩ := getOuts_rel (S1 := S1) hI.roots ps args w S0 vs hs s'.io o harg hI.ios hgo (fun b hb => .inl hb) (fun n hn r hr ho g hg => .inr ⟨n, List.mem_append.2 (.inr hn), r, hr, ho, hg⟩)
          -- a block that the call may write into is one of the rows'
          have hIO : ∀ b, b ∈ blocks hs → ∃ n ∈ s'.io, (H n).g = some b := by
            intro b hb
            obtain ⟨h, hh, hg⟩ := List.mem_filterMap.1 hb
            have : h.hdr ∈ s'.io.map (fun n => (H n).hdr) := by rw [hI.ios]; exact List.mem_map.2 ⟨h, hh, rfl⟩
            obtain ⟨n, hn, e⟩ := List.mem_map.1 this
            refine ⟨n, hn, ?_⟩
            simp only [Loc.hdr, Value.slice.injEq] at e
            rw [hg] at e
            cases hng : (H n).g with
            | none => rw [hng] at e; simp at e
            | some g' => rw [hng] at e; simp at e; rw [e.1]
          have hioOwn : ∀ n ∈ s'.io, ∀ g, (H n).g = some g → ¬ S g := by
            intro n hn g hg
            obtain ⟨q, h1, o1⟩ := hio n hn
            exact (hI.mine n _ h1 o1 g hg).1
          have hdis2 : ∀ n ∈ ns ++ s'.io, ∀ m ∈ ns ++ s'.io, n ≠ m → ∀ g, (H n).g = some g → (H m).g ≠ some g := by
            intro n hn m hm hne g hg
            have row : ∀ k ∈ ns ++ s'.io, ∃ r, s'.root k = some r ∧ r.own = true := by
              intro k hk
              rcases List.mem_append.1 hk with hk | hk
              · obtain ⟨e, t, l, h⟩ := hown k hk
                exact ⟨_, h, rfl⟩
              · exact hio k hk
            obtain ⟨_, h1, o1⟩ := row n hn
            obtain ⟨_, h2, o2⟩ := row m hm
            exact hI.dis n m _ _ h1 h2 o1 o2 hne g hg
          refine ⟨oneVal us, hres, S1, us, hr2, hI.frame, fun b hb => .inl (hI.sup b hb), ?_, rfl, hrel, hout, ?_, ?_⟩
          · rintro b (hb | ⟨n, hn, r', h1, h2, h3⟩)
            · rcases hI.low b hb with h | h | h
              · exact .inl h
              · exact .inr ⟨h, hI.sub b hb⟩
              · obtain ⟨n, hn, hg⟩ := hIO b h
                exact absurd hb (hioOwn n hn b hg)
            · have hmn := hI.mine n r' h1 h2 b h3
              rcases hmn.2 with h | h
              · exact .inr ⟨h, hI.lt n r' h1 b h3⟩
              · obtain ⟨m, hm, hg⟩ := hIO b h
                obtain ⟨q, h4, o4⟩ := hio m hm
                have hne : m ≠ n := fun e => hmeet m (List.mem_append.2 (.inr hm)) (e ▸ hn)
                exact absurd h3 (hI.dis m n _ _ h4 h1 o4 h2 hne b hg)
          · rw [hbl]
            have hnd3 : ns.Nodup := (List.nodup_append.1 hnod).1
            have := nodup_blocks (H := H) hnd3 (fun n hn m hm => hdis2 n (List.mem_append.2 (.inl hn)) m (List.mem_append.2 (.inl hm)))
            simpa [blocks, blk, List.filterMap_map, Function.comp_def] using this
          · intro g hg
            rw [hbl] at hg
            obtain ⟨n, hn, hng⟩ := List.mem_filterMap.1 hg
            obtain ⟨e, t, l, h1⟩ := hown n hn
            have hmn := hI.mine n _ h1 rfl g hng
            refine ⟨?_, hI.lt n _ h1 g hng, ?_⟩
            · rcases hmn.2 with h | h
              · exact h
              · obtain ⟨m, hm, hmg⟩ := hIO g h
                have hne : n ≠ m := by
                  intro e
                  exact (List.nodup_append.1 hnod).2.2 n hn m hm e
                exact absurd hmg (hdis2 n (List.mem_append.2 (.inl hn)) m (List.mem_append.2 (.inr hm)) hne g hng)
            · rintro (h | ⟨m, hm, r', h2, h3, h4⟩)
              · exact hmn.1 h
              · have hne : n ≠ m := fun e => hmeet n (List.mem_append.2 (.inl hn)) (e ▸ hm)
                exact hI.dis n m _ _ h1 h2 rfl h3 hne g hng h4
      · cases hk
    · cases hk
  cases e with
  | exit id => simp [finK] at hk
  | normal =>
    obtain ⟨h1, v, h2, h3⟩ := key r hk
    exact ⟨h1, v, h2, h3⟩
  | ret =>
    obtain ⟨h1, v, h2, h3⟩ := key r hk
    exact ⟨h1, v, h2, h3⟩
end
end Go.AM
end

noncomputable section
namespace Go.AM
open Go.RowKit

/-! ### calls run in place -/
theorem look_append {α : Type} {d : α} (l m : List (Nat × α)) (i : Nat) : (i ∈ l.map (·.1) → look d (l ++ m) i = look d l i) ∧ (i ∉ l.map (·.1) → look d (l ++ m) i = look d m i) := by
  induction l with
  | nil => exact ⟨fun h => (by cases h), fun _ => rfl⟩
  | cons x l ih =>
    obtain ⟨j, v⟩ := x
    simp only [List.map_cons, List.mem_cons, List.cons_append, look]
    by_cases hj : j = i
    · subst hj
      simp
    · rw [beq_ne hj, cond_false, cond_false]
      exact ⟨fun h => ih.1 (h.resolve_left (fun e => hj e.symm)), fun h => ih.2 (fun h' => h (.inr h'))⟩
theorem look_of_key {α : Type} {d : α} {l : List (Nat × α)} {i : Nat} (h : i ∈ l.map (·.1)) : (i, look d l i) ∈ l := by
  induction l with
  | nil => cases h
  | cons x l ih =>
    obtain ⟨j, v⟩ := x
    simp only [look]
    by_cases hj : j = i
    · subst hj; simp
    · rw [beq_ne hj, cond_false]
      simp only [List.map_cons, List.mem_cons] at h
      exact List.mem_cons_of_mem _ (ih (h.resolve_left (fun e => hj e.symm)))
theorem blt_false {a b : Nat} (h : b ≤ a) : Nat.blt a b = false := by
  cases hb : Nat.blt a b with
  | false => rfl
  | true => have : a < b := Nat.le_of_ble_eq_true hb
            omega
theorem blt_true {a b : Nat} (h : a < b) : Nat.blt a b = true := Nat.ble_eq_true_of_le h
theorem look_up {α : Type} {d : α} {n : Nat} (fr : List (Nat × α)) (i : Nat) : look d (fr.filterMap fun p => bif Nat.blt p.1 4096 then none else some (p.1 + n, p.2)) i = if 4096 + n ≤ i then look d fr (i - n) else d := by
  induction fr with
  | nil => simp [look]
  | cons x fr ih =>
    obtain ⟨j, v⟩ := x
    simp only [List.filterMap_cons]
    by_cases hj : j < 4096
    · rw [blt_true hj, cond_true]
      simp only
      rw [ih]
      split
      · simp only [look]
        rw [beq_ne (by omega), cond_false]
      · rfl
    · rw [blt_false (by omega), cond_false]
      simp only [look]
      by_cases hi : j + n = i
      · subst hi
        simp only [Nat.beq_refl, cond_true, Nat.add_sub_cancel]
        rw [if_pos (by omega)]
      · rw [beq_ne hi, cond_false, ih]
        split
        · rw [beq_ne (by omega), cond_false]
        · rfl
theorem look_down {α : Type} {d : α} {n : Nat} (fr : List (Nat × α)) (i : Nat) : look d (fr.filterMap fun p => bif Nat.blt p.1 (4096 + n) then none else some (p.1 - n, p.2)) i = if 4096 ≤ i then look d fr (i + n) else d := by
  induction fr with
  | nil => simp [look]
  | cons x fr ih =>
    obtain ⟨j, v⟩ := x
    simp only [List.filterMap_cons]
    by_cases hj : j < 4096 + n
    · rw [blt_true hj, cond_true]
      simp only
      rw [ih]
      split
      · simp only [look]
        rw [beq_ne (by omega), cond_false]
      · rfl
    · rw [blt_false (by omega), cond_false]
      simp only [look]
      by_cases hi : j - n = i
      · subst hi
        have e : j - n + n = j := by omega
        rw [e]
        simp only [Nat.beq_refl, cond_true]
        rw [if_pos (by omega)]
      · rw [beq_ne hi, cond_false, ih]
        split
        · rw [beq_ne (by omega), cond_false]
        · rfl

section
variable {C : Ctx} {E : Env} {R : Type} {r : R}

/-- The truth of one function run in place. -/
def OneOk (C : Ctx) (f : Nat) (i : List AV → St → (St → AV → Option R) → Option R) (r : R) : Prop := ∀ (vs : List AV) (s : St) (K : St → AV → Option R) (a : Act) (w : World) (us : List Value) (Post : Value → World → Prop), i vs s K = some r →
  (∃ S H N, Inv C S H N s.slot s.root s.io a w ∧ (∀ n, N n → n < s.nx) ∧ VRels w S H N vs us) →
  (∀ s' v u w' S' H' N', K s' v = some r → Inv C S' H' N' s'.slot s'.root s'.io a w' → (∀ n, N' n → n < s'.nx) → VRel w' S' H' N' v u → Post u w') →
  Entered C.P f ∧ Calls C.P f us.toArray w fun e w' => match e with | .returned u => Post u w' | _ => False
theorem inlCons_ok {J : Inl R} {site f : Nat} {i : List AV → St → (St → AV → Option R) → Option R} (hi : OneOk C f i r) (hJ : InlOk C J r) : InlOk C (inlCons site f i J) r := by
  intro q g vs s K a w us Post h h1 h2
  unfold inlCons at h
  cases hb : Nat.beq q site && Nat.beq g f with
  | true =>
    rw [hb] at h
    simp only [Bool.and_eq_true] at hb
    have := Nat.eq_of_beq_eq_true hb.2
    subst this
    exact hi vs s K a w us Post h h1 h2
  | false =>
    rw [hb] at h
    exact hJ q g vs s K a w us Post h h1 h2

theorem inst_ok {P : Program} (hCP : C.P = P) {f : Nat} {fn : Func} {code : Code} {J : Inl R} {L : Nat → St → (AExit → St → Option R) → Option R} {save : List Nat}
    (hP : E.P = P) (hmix : P.follows .mixedOrders = true) (hnt : E.nt = fn.ntmps) (hnt4 : Nat.ble fn.ntmps 4096 = true) (htbl : ∀ f en, E.tbl f = some en → Sound P f en) (hf : P.funcs[f]? = some fn) (hb : fn.body = some code) (hname : (fn.name == "runtime.NumGoroutine") = false)
    (hfit : codeFit E code = true) (hloops : ∀ d ∈ loopsIn code, findLoop (firstRegion d) code = some d) (hJ : ∀ C : Ctx, C.P = P → InlOk C J r) (hL : LoopsOk E J L code) : OneOk C f (inst E J L fn save) r := by
  intro vs s K a w us Post h ⟨S, H, N, hI, hN, hus⟩ hK
  subst hCP
  refine ⟨⟨fn, code, hf, hb, hname⟩, ?_⟩
  refine calls_of_wp hf hb ?_
  let a0 : Act := { tmps := us.toArray ++ Array.replicate (fn.ntmps - us.toArray.size) undef, defers := [] }
  let n := save.length
  let C' : Ctx := { C with nt := fn.ntmps, ntle := Nat.le_of_ble_eq_true hnt4, sv := fun j => if j < n then C.val a (save.getD j 0) else C.val a (4096 + (j - n)) }
  have hE : EnvOk C' E := ⟨hP.symm, hnt.symm, htbl, hmix⟩
  have hbeg : Inv C' S H N (inBeg save vs s).slot s.root s.io a0 w := by
    refine { hI with slots := ?_, size := ?_, def0 := rfl }
    · intro i
      show VRel w S H N (look .undef _ i) (C'.val a0 i)
      have ha := look_append (d := AV.undef) (((vs.take 64).zipIdx.map fun (p : AV × Nat) => (p.2, p.1)) ++ (save.zipIdx.map fun (p : Nat × Nat) => (4096 + p.2, s.slot p.1))) (s.fr.filterMap fun (p : Nat × AV) => bif Nat.blt p.1 4096 then none else some (p.1 + save.length, p.2)) i
      by_cases hk : i ∈ (((vs.take 64).zipIdx.map fun (p : AV × Nat) => (p.2, p.1)) ++ (save.zipIdx.map fun (p : Nat × Nat) => (4096 + p.2, s.slot p.1))).map (·.1)
      · have e : (inBeg save vs s).fr = ((vs.take 64).zipIdx.map fun (p : AV × Nat) => (p.2, p.1)) ++ (save.zipIdx.map fun (p : Nat × Nat) => (4096 + p.2, s.slot p.1)) ++ (s.fr.filterMap fun (p : Nat × AV) => bif Nat.blt p.1 4096 then none else some (p.1 + save.length, p.2)) := rfl
        rw [e, ha.1 hk]
        have hm := look_of_key (d := AV.undef) hk
        generalize look AV.undef _ i = c at hm
        rcases List.mem_append.1 hm with hm | hm
        · obtain ⟨⟨c', j⟩, hj, e2⟩ := List.mem_map.1 hm
          simp only [Prod.mk.injEq] at e2
          obtain ⟨rfl, rfl⟩ := e2
          have hj' := List.mem_zipIdx hj
          simp only [Nat.zero_le, Nat.zero_add, Nat.sub_zero, true_and] at hj'
          obtain ⟨hlt, hc⟩ := hj'
          have hlt2 : j < 64 ∧ j < vs.length := by rw [List.length_take] at hlt; omega
          have hget : vs[j]? = some c' := by
            rw [hc, List.getElem_take, List.getElem?_eq_getElem hlt2.2]
          obtain ⟨v, hv, hrel⟩ := hus.get hget
          rw [C'.val_lt a0 (by omega)]
          have hjl := (List.getElem?_eq_some_iff.1 hv).1
          have : a0.tmps.getD j undef = v := by
            show (us.toArray ++ _).getD j undef = v
            rw [Array.getD_eq_getD_getElem?, Array.getElem?_append_left (by simpa using hjl)]
            simp [hv]
          rw [this]
          exact hrel
        · obtain ⟨⟨k, j⟩, hj, e2⟩ := List.mem_map.1 hm
          simp only [Prod.mk.injEq] at e2
          obtain ⟨rfl, rfl⟩ := e2
          have hj' := List.mem_zipIdx hj
          simp only [Nat.zero_le, Nat.zero_add, Nat.sub_zero, true_and] at hj'
          obtain ⟨hlt, hc⟩ := hj'
          have : C'.val a0 (4096 + j) = C.val a k := by
            unfold Ctx.val
            rw [if_neg (by omega)]
            show (if 4096 + j - 4096 < n then C.val a (save.getD (4096 + j - 4096) 0) else _) = _
            have e3 : 4096 + j - 4096 = j := by omega
            rw [e3, if_pos hlt, List.getD_eq_getElem?_getD, List.getElem?_eq_getElem hlt, hc]
            rfl
          rw [this]
          exact hI.slots k
      · have e : (inBeg save vs s).fr = ((vs.take 64).zipIdx.map fun (p : AV × Nat) => (p.2, p.1)) ++ (save.zipIdx.map fun (p : Nat × Nat) => (4096 + p.2, s.slot p.1)) ++ (s.fr.filterMap fun (p : Nat × AV) => bif Nat.blt p.1 4096 then none else some (p.1 + save.length, p.2)) := rfl
        rw [e, ha.2 hk, look_up]
        split
        · rename_i hle
          have : C'.val a0 i = C.val a (i - save.length) := by
            unfold Ctx.val
            rw [if_neg (by omega)]
            show (if i - 4096 < n then _ else C.val a (4096 + (i - 4096 - n))) = _
            rw [if_neg (show ¬ i - 4096 < save.length by omega)]
            have e3 : 4096 + (i - 4096 - n) = i - save.length := by show 4096 + (i - 4096 - save.length) = _; omega
            rw [e3]
            rfl
          rw [this]
          exact hI.slots (i - save.length)
        · exact .undef _
    · show fn.ntmps ≤ (us.toArray ++ Array.replicate (fn.ntmps - us.toArray.size) undef).size
      simp
      omega
  have hcode : codeOf fn = code := by simp [codeOf, hb]
  unfold inst at h
  rw [hcode] at h
  refine exec_sound hE (hJ C' rfl) hL code hfit hloops _ _ a0 w _ h ⟨S, H, N, hbeg, hN⟩ ?_
  intro e s' a' w' hk hg
  obtain ⟨S', H', N', hI', hN'⟩ := hg
  have key : ∀ (q : Option (List AV)), resVals E s' fn.results.toList = q → (match q with | some us => K (inEnd save s') (resAV us) | none => none) = some r → a'.defers = [] ∧ ∃ v, (results fn a'.tmps).run C.P w' = .ok v w' ∧ Post v w' := by
    intro q hq hk
    cases q with
    | none => cases hk
    | some avs =>
      obtain ⟨us', hus', hres⟩ := results_run (E := E) hI' hq
      rw [hP] at hres
      refine ⟨hI'.def0, oneVal us', hres, ?_⟩
      refine hK (inEnd save s') _ _ w' S' H' N' hk ?_ hN' (oneVal_rel hus')
      refine { hI' with slots := ?_, size := hI.size, def0 := hI.def0 }
      intro i
      show VRel w' S' H' N' (look .undef _ i) (C.val a i)
      have ha := look_append (d := AV.undef) (save.zipIdx.map fun (p : Nat × Nat) => (p.1, s'.slot (4096 + p.2))) (s'.fr.filterMap fun (p : Nat × AV) => bif Nat.blt p.1 (4096 + save.length) then none else some (p.1 - save.length, p.2)) i
      have e : (inEnd save s').fr = (save.zipIdx.map fun (p : Nat × Nat) => (p.1, s'.slot (4096 + p.2))) ++ (s'.fr.filterMap fun (p : Nat × AV) => bif Nat.blt p.1 (4096 + save.length) then none else some (p.1 - save.length, p.2)) := rfl
      rw [e]
      by_cases hki : i ∈ (save.zipIdx.map fun (p : Nat × Nat) => (p.1, s'.slot (4096 + p.2))).map (·.1)
      · rw [ha.1 hki]
        have hm := look_of_key (d := AV.undef) hki
        generalize look AV.undef _ i = c at hm
        obtain ⟨⟨k, j⟩, hj, e2⟩ := List.mem_map.1 hm
        simp only [Prod.mk.injEq] at e2
        obtain ⟨rfl, rfl⟩ := e2
        have hj' := List.mem_zipIdx hj
        simp only [Nat.zero_le, Nat.zero_add, Nat.sub_zero, true_and] at hj'
        obtain ⟨hlt, hc⟩ := hj'
        have hs := hI'.slots (4096 + j)
        have : C'.val a' (4096 + j) = C.val a k := by
          unfold Ctx.val
          rw [if_neg (by omega)]
          show (if 4096 + j - 4096 < n then C.val a (save.getD (4096 + j - 4096) 0) else _) = _
          have e3 : 4096 + j - 4096 = j := by omega
          rw [e3, if_pos hlt, List.getD_eq_getElem?_getD, List.getElem?_eq_getElem hlt, hc]
          rfl
        rw [this] at hs
        exact hs
      · rw [ha.2 hki, look_down]
        split
        · rename_i hle
          have hs := hI'.slots (i + save.length)
          have : C'.val a' (i + save.length) = C.val a i := by
            unfold Ctx.val
            rw [if_neg (by omega)]
            show (if i + save.length - 4096 < n then _ else C.val a (4096 + (i + save.length - 4096 - n))) = _
            rw [if_neg (show ¬ i + save.length - 4096 < save.length by omega)]
            have e3 : 4096 + (i + save.length - 4096 - n) = i := by show 4096 + (i + save.length - 4096 - save.length) = _; omega
            rw [e3]
            rfl
          rw [this] at hs
          exact hs
        · exact .undef _
  cases e with
  | exit id => cases hk
  | normal => exact key _ rfl hk
  | ret => exact key _ rfl hk
end
end Go.AM
end

noncomputable section
namespace Go.AM
theorem tbl_nil {P : Program} : ∀ f en, look (none : Option Entry) [] f = some en → Sound P f en := fun _ _ h => by cases h
theorem tbl_cons {P : Program} {i : Nat} {e : Entry} {l : List (Nat × Option Entry)} (h : Sound P i e) (hl : ∀ f en, look none l f = some en → Sound P f en) : ∀ f en, look none ((i, some e) :: l) f = some en → Sound P f en := by
  intro f en hh
  simp only [look] at hh
  by_cases hi : i = f
  · subst hi
    simp only [Nat.beq_refl, cond_true, Option.some.injEq] at hh
    subst hh
    exact h
  · rw [beq_ne hi, cond_false] at hh
    exact hl f en hh
theorem loops_all {l : List Code} {g : Code → Option Code} (h : l.map g = l.map some) : ∀ d ∈ l, g d = some d := fun d hd => List.map_inj_left.1 h d hd
theorem sound_none {P : Program} {f : Nat} {ps : List PTy} {rs : List RTy} {fnc : Args ps → Option (Res rs × Outs ps)} (he : Entered P f) (h : ∀ a, fnc a = none) : Sound P f ⟨ps, rs, fnc⟩ :=
  ⟨he, fun w S0 args vs hs r hr _ _ _ _ => by have := (h args).symm.trans hr; cases this⟩
theorem not_key {q : Nat} {x : Nat} {α : Type} {a b : Option α} {r : α} (hq : ¬ q = x) (h : (bif Nat.beq q x then a else b) = some r) : b = some r := by
  rw [beq_ne hq, cond_false] at h; exact h
theorem key_eq {q : Nat} {x : Nat} {α : Type} {a b : Option α} {r : α} (hq : q = x) (h : (bif Nat.beq q x then a else b) = some r) : a = some r := by
  subst hq; rw [Nat.beq_refl, cond_true] at h; exact h
end Go.AM
end

noncomputable section
namespace Go.AM
open Go.ChangeShapes Go.WideShapes Go.RowKit Go.Deep

/-! ### an argument's reading gives a value -/
def fieldsOk (chk : TypeId → Ty → Bool) : List Field → Nat → Ty → Bool
  | [], _, .unit => true
  | f :: fs, off, .pair A B => Nat.beq f.offset off && (chk f.type A && fieldsOk chk fs (off + A.cells) B)
  | _, _, _ => false
def kindB (k j : IntKind) : Bool := decide (k = j)
def tyOk (P : Program) : Nat → TypeId → Ty → Bool
  | 0, _, _ => false
  | _ + 1, t, .int k' => match P.underlying t with | some (.int k) => kindB k k' | _ => false
  | _ + 1, t, .bool => match P.underlying t with | some .bool => true | _ => false
  | _ + 1, t, .str => match P.underlying t with | some .string => true | _ => false
  | d + 1, t, .sl e' T => match P.underlying t with | some (.slice e) => Nat.beq e e' && (Nat.beq (P.cellsOf e) T.cells && (Nat.blt 0 T.cells && tyOk P d e T)) | _ => false
  | d + 1, t, .arr n' T => match P.underlying t with | some (.array n e) => Nat.beq n n' && (Nat.beq (P.cellsOf t) (n * T.cells) && (Nat.beq (P.cellsOf e) T.cells && tyOk P d e T)) | _ => false
  | _ + 1, t, .unit => match P.underlying t with | some (.struct fs) => Nat.beq (P.cellsOf t) 0 && fs.toList.isEmpty | _ => false
  | d + 1, t, .pair A B => match P.underlying t with | some (.struct fs) => Nat.beq (P.cellsOf t) (A.cells + B.cells) && fieldsOk (fun u U => Nat.beq (P.cellsOf u) U.cells && tyOk P d u U) fs.toList 0 (.pair A B) | _ => false

/-- Values as Go has them: numbers of their kind; nothing longer than a machine's memory. -/
def Wf : (t : Ty) → t.den → Prop
  | .int k, x => (Lit.int k x).wf = true
  | .bool, _ => True
  | .str, s => List.length s ≤ maxLen
  | .sl _ t, xs => List.length xs ≤ maxLen ∧ ∀ x ∈ (xs : List t.den), Wf t x
  | .unit, _ => True
  | .pair a b, p => Wf a p.1 ∧ Wf b p.2
  | .arr n t, xs => List.length xs = n ∧ ∀ x ∈ (xs : List t.den), Wf t x

section
variable {H : Type} {enc : TypeId × Value → H} {P : Program} {w : World} {base : Nat} {spare : Nat → Bool} {held : Bool}

theorem RdMany.ofFn {α : Type} {R : α → List Value → Prop} {V : Nat → α} {C : Nat → List Value} : ∀ (l : List Nat), (∀ i ∈ l, R (V i) (C i)) → RdMany R (l.map V) (l.flatMap C)
  | [], _ => by simp [RdMany]
  | i :: l, h => by
    simp only [List.map_cons, List.flatMap_cons]
    exact ⟨C i, l.flatMap C, rfl, h i (by simp), RdMany.ofFn l (fun j hj => h j (by simp [hj]))⟩
theorem flat_chunk {C : Nat → List Value} {s : Nat} (hC : ∀ i, (C i).length = s) : ∀ (m k : Nat) (q : Nat) (u : Value), ((List.range' k m).flatMap C)[q]? = some u → ∃ i j, i < m ∧ j < s ∧ q = i * s + j ∧ (C (k + i))[j]? = some u
  | 0, k, q, u, h => by simp at h
  | m + 1, k, q, u, h => by
    rw [List.range'_succ, List.flatMap_cons] at h
    by_cases hq : q < s
    · rw [List.getElem?_append_left (by rw [hC]; exact hq)] at h
      exact ⟨0, q, by omega, hq, by omega, h⟩
    · rw [List.getElem?_append_right (by rw [hC]; omega), hC] at h
      obtain ⟨i, j, h1, h2, h3, h4⟩ := flat_chunk hC m (k + 1) (q - s) u h
      refine ⟨i + 1, j, by omega, h2, ?_, ?_⟩
      · rw [Nat.add_mul]; omega
      · have : k + (i + 1) = k + 1 + i := by omega
        rw [this]; exact h4

theorem cell_block_lt {ad : Addr} {u : Value} (h : w.cell? ad = some u) : ad.block < w.heap.size := by
  unfold World.cell? at h
  split at h
  · rename_i hb
    exact (Array.getElem?_eq_some_iff.1 hb).1
  · cases h

/-- What the slices of a reading read. -/
abbrev Lo (w : World) : Nat → Prop := fun b => b < w.heap.size

theorem rd_of_trod : ∀ (d : Nat) (T : Ty) (t : TypeId) (fuel : Nat) (cs : List Value) (x : DataW H × List MemPlace), tyOk P d t T = true → DataW.trod enc P w 0 spare held fuel t cs = some x → ∃ v : T.den, Rd w (Lo w) T v cs ∧ Wf T v := by
  intro d
  induction d with
  | zero => intro T t fuel cs x h; simp [tyOk] at h
  | succ d ih =>
    intro T t fuel cs x h hx
    cases T with
    | int k =>
      simp only [tyOk] at h
      split at h
      · rename_i k' hu
        obtain rfl : k' = k := of_decide_eq_true h
        obtain ⟨n, rfl, _, hw⟩ := DataW.trod_int hu hx
        exact ⟨n, rfl, hw⟩
      · cases h
    | bool =>
      simp only [tyOk] at h
      split at h
      · rename_i hu
        obtain ⟨b, rfl, _⟩ := DataW.trod_bool hu hx
        exact ⟨b, rfl, trivial⟩
      · cases h
    | str =>
      simp only [tyOk] at h
      split at h
      · rename_i hu
        obtain ⟨s, rfl, _, hs⟩ := DataW.trod_string hu hx
        refine ⟨s.data.toList, ?_, ?_⟩
        · simp [Rd]
        · simp only [Wf, Array.length_toList]
          exact hs
      · cases h
    | unit =>
      simp only [tyOk] at h
      split at h
      · rename_i fs hu
        simp only [Bool.and_eq_true] at h
        obtain ⟨xs, n, _, _, hl, _, _⟩ := DataW.trod_struct hu hx
        rw [Nat.eq_of_beq_eq_true h.1] at hl
        exact ⟨(), List.eq_nil_of_length_eq_zero hl, trivial⟩
      · cases h
    | sl e' T =>
      simp only [tyOk] at h
      split at h
      · rename_i e hu
        simp only [Bool.and_eq_true] at h
        obtain ⟨h1, h2, h3, h4⟩ := h
        have hsz := Nat.eq_of_beq_eq_true h2
        have hpos : 0 < T.cells := Nat.le_of_ble_eq_true h3
        rcases open_slice hu hx with ⟨rfl, _⟩ | ⟨a, len, cap, m, n, D, Pl, rfl, _, hlc, hcm, hm, _, hel⟩
        · exact ⟨[], ⟨none, 0, rfl, Nat.le_refl _, .inl rfl⟩, by simp, fun x hx => by cases hx⟩
        · have hlm : len ≤ m := by rw [hm]; split <;> omega
          have key : ∀ i, i < len → ∃ p : T.den × List Value, w.cells? 0 (a.add (i * T.cells)) T.cells = some p.2 ∧ Rd w (Lo w) T p.1 p.2 ∧ Wf T p.1 := by
            intro i hi
            obtain ⟨cs', c1, c2⟩ := hel i (by omega)
            rw [hsz] at c1
            obtain ⟨v, r1, r2⟩ := ih T e _ _ _ h4 c2
            exact ⟨(v, cs'), c1, r1, r2⟩
          haveI : Inhabited (T.den × List Value) := ⟨(T.dflt, [])⟩
          obtain ⟨F, hF⟩ := choose_lt key
          let C : Nat → List Value := fun i => if i < len then (F i).2 else List.replicate T.cells undef
          have hC : ∀ i, (C i).length = T.cells := by
            intro i
            simp only [C]
            split
            · rename_i hi
              exact (World.cells?_some (hF i hi).1).2.1
            · simp
          refine ⟨(List.range len).map fun i => (F i).1, ⟨some a, cap, by simp, by simpa using hlc, ?_⟩, by simp; omega, ?_⟩
          · rcases Nat.eq_zero_or_pos len with h0 | h0
            · subst h0; exact .inl rfl
            · right
              have h00 := (World.cells?_some (hF 0 h0).1).2.2 0 hpos
              have hlen0 := (World.cells?_some (hF 0 h0).1).2.1
              obtain ⟨u, hu0⟩ : ∃ u, (F 0).2[0]? = some u := ⟨(F 0).2[0]'(by omega), List.getElem?_eq_getElem (by omega)⟩
              rw [hu0] at h00
              have hspot : a.spot = none := by
                have := World.cell?_spot h00
                simpa [Addr.add] using this
              have hblk : a.block < w.heap.size := by
                have := cell_block_lt h00
                simpa [Addr.add] using this
              obtain ⟨g, o, sp⟩ := a
              simp only at hspot hblk
              subst hspot
              refine ⟨g, o, (List.range len).flatMap C, rfl, hblk, ?_, ?_⟩
              · refine RdMany.ofFn _ (fun i hi => ?_)
                have hi := List.mem_range.1 hi
                simp only [C, if_pos hi]
                exact (hF i hi).2.1
              · intro q u hq
                rw [List.range_eq_range'] at hq
                obtain ⟨i, j, e1, e2, e3, e4⟩ := flat_chunk hC len 0 q u hq
                simp only [Nat.zero_add, C, if_pos e1] at e4
                have := (World.cells?_some (hF i e1).1).2.2 j e2
                rw [e4] at this
                rw [e3, ← this, add_plain, add_plain, add_plain, Nat.add_assoc]
          · intro y hy
            obtain ⟨i, hi, rfl⟩ := List.mem_map.1 hy
            exact (hF i (List.mem_range.1 hi)).2.2
      · cases h
    | arr n' T =>
      simp only [tyOk] at h
      split at h
      · rename_i n e hu
        simp only [Bool.and_eq_true] at h
        obtain ⟨h1, h2, h3, h4⟩ := h
        have hn := Nat.eq_of_beq_eq_true h1
        subst hn
        have hsz := Nat.eq_of_beq_eq_true h3
        obtain ⟨xs, m, _, _, hl, hxl, hel⟩ := DataW.trod_array hu hx
        rw [Nat.eq_of_beq_eq_true h2] at hl
        rw [hsz] at hel
        have key : ∀ i, i < n → ∃ v : T.den, Rd w (Lo w) T v ((cs.drop (i * T.cells)).take T.cells) ∧ Wf T v := by
          intro i hi
          have := hel i hi
          rw [List.getElem?_eq_getElem (by omega)] at this
          exact ih T e _ _ _ h4 this
        haveI : Inhabited T.den := ⟨T.dflt⟩
        obtain ⟨F, hF⟩ := choose_lt key
        refine ⟨(List.range n).map F, ⟨by simp, ?_⟩, by simp, ?_⟩
        · have e1 : cs = (List.range n).flatMap fun i => (cs.drop (i * T.cells)).take T.cells := by
            have gen : ∀ (m k : Nat), (List.range' k m).flatMap (fun i => (cs.drop (i * T.cells)).take T.cells) = (cs.drop (k * T.cells)).take (m * T.cells) := by
              intro m
              induction m with
              | zero => intro k; simp
              | succ m ihm =>
                intro k
                rw [List.range'_succ, List.flatMap_cons, ihm (k + 1), Nat.add_mul, Nat.add_mul, Nat.one_mul, Nat.add_comm (m * T.cells), List.take_add, List.drop_drop]
            rw [List.range_eq_range', gen, Nat.zero_mul, List.drop_zero, List.take_of_length_le (by omega)]
          rw [e1]
          refine RdMany.ofFn _ (fun i hi => ?_)
          exact (hF i (List.mem_range.1 hi)).1
        · intro y hy
          obtain ⟨i, hi, rfl⟩ := List.mem_map.1 hy
          exact (hF i (List.mem_range.1 hi)).2
      · cases h
    | pair A B =>
      simp only [tyOk] at h
      split at h
      · rename_i fs hu
        simp only [Bool.and_eq_true] at h
        obtain ⟨h1, h2⟩ := h
        obtain ⟨xs, n, _, _, hl, hxl, hel⟩ := DataW.trod_struct hu hx
        rw [Nat.eq_of_beq_eq_true h1] at hl
        have hf : ∀ f ∈ fs.toList, ∃ y, DataW.trod enc P w 0 spare held n f.type ((cs.drop f.offset).take (P.cellsOf f.type)) = some y := by
          intro f hf
          obtain ⟨i, hi, e⟩ := List.mem_iff_getElem.1 hf
          simp only [Array.length_toList] at hi
          have := hel i f (by rw [Array.getElem?_eq_getElem hi, ← e]; simp)
          rw [List.getElem?_eq_getElem (by omega)] at this
          exact ⟨_, this⟩
        have gen : ∀ (fl : List Field) (off : Nat) (U : Ty), fieldsOk (fun u U => Nat.beq (P.cellsOf u) U.cells && tyOk P d u U) fl off U = true → (∀ f ∈ fl, ∃ y, DataW.trod enc P w 0 spare held n f.type ((cs.drop f.offset).take (P.cellsOf f.type)) = some y) → cs.length = off + U.cells →
            ∃ v : U.den, Rd w (Lo w) U v (cs.drop off) ∧ Wf U v := by
          intro fl
          induction fl with
          | nil =>
            intro off U hU _ hlen
            cases U with
            | unit =>
              refine ⟨(), ?_, trivial⟩
              simp only [Ty.cells] at hlen
              simp only [Rd, List.drop_eq_nil_iff]
              omega
            | _ => simp [fieldsOk] at hU
          | cons f fl ihf =>
            intro off U hU hall hlen
            cases U with
            | pair A B =>
              simp only [fieldsOk, Bool.and_eq_true] at hU
              obtain ⟨u1, ⟨u2, u3⟩, u4⟩ := hU
              have e1 := Nat.eq_of_beq_eq_true u1
              have e2 := Nat.eq_of_beq_eq_true u2
              obtain ⟨y, hy⟩ := hall f (by simp)
              rw [e1, e2] at hy
              obtain ⟨va, ra, wa⟩ := ih A f.type _ _ _ u3 hy
              simp only [Ty.cells] at hlen
              obtain ⟨vb, rb, wb⟩ := ihf (off + A.cells) B u4 (fun g hg => hall g (by simp [hg])) (by omega)
              refine ⟨(va, vb), ⟨(cs.drop off).take A.cells, cs.drop (off + A.cells), ?_, ra, rb⟩, wa, wb⟩
              rw [← List.drop_drop, List.take_append_drop]
            | _ => simp [fieldsOk] at hU
        obtain ⟨v, r1, r2⟩ := gen fs.toList 0 (.pair A B) h2 hf (by simp only [Ty.cells]; omega)
        rw [List.drop_zero] at r1
        exact ⟨v, r1, r2⟩
      · cases h

theorem not_agg_of {r : Reach} {b0 : Nat} {t : TypeId} {T : Ty} {d : Nat} {v : Value} (h : tyOk P d t T = true) (hv : Value.okWide P w r b0 t v) : v = toVal T v.cells.toList := by
  cases d with
  | zero => simp [tyOk] at h
  | succ d =>
    cases T with
    | int k =>
      simp only [tyOk] at h
      split at h
      · rename_i hu; obtain ⟨n, rfl⟩ := okWide_int hu hv; rfl
      · cases h
    | bool =>
      simp only [tyOk] at h
      split at h
      · rename_i hu; obtain ⟨n, rfl⟩ := okWide_bool hu hv; rfl
      · cases h
    | str =>
      simp only [tyOk] at h
      split at h
      · rename_i hu; obtain ⟨n, rfl⟩ := okWide_string hu hv; rfl
      · cases h
    | sl e T =>
      simp only [tyOk] at h
      split at h
      · rename_i hu; obtain ⟨a, l, c, rfl⟩ := okWide_slice hu hv; rfl
      · cases h
    | unit =>
      simp only [tyOk] at h
      split at h
      · rename_i hu; obtain ⟨cs, rfl, _⟩ := okWide_struct hu hv; simp [toVal, Ty.comp, Value.cells]
      · cases h
    | pair A B =>
      simp only [tyOk] at h
      split at h
      · rename_i hu; obtain ⟨cs, rfl, _⟩ := okWide_struct hu hv; simp [toVal, Ty.comp, Value.cells]
      · cases h
    | arr n T =>
      simp only [tyOk] at h
      split at h
      · rename_i hu
        simp only [Value.okWide, hu] at hv
        obtain ⟨cs, rfl, _⟩ := hv
        simp [toVal, Ty.comp, Value.cells]
      · cases h
end
end Go.AM
end

noncomputable section
namespace Go.AM
open Go.ChangeShapes Go.WideShapes Go.RowKit Go.Deep

/-! ### a row of the statements out of the law's contract -/
def tysOk (P : Program) (d : Nat) : List TypeId → List Ty → Bool
  | [], [] => true
  | t :: ts, T :: Ts => tyOk P d t T && tysOk P d ts Ts
  | _, _ => false
abbrev ros (Ts : List Ty) : List PTy := Ts.map PTy.ro
def WfArgs : (Ts : List Ty) → Args (ros Ts) → Prop
  | [], _ => True
  | T :: Ts, a => Wf T a.1 ∧ WfArgs Ts a.2

section
variable {H : Type} {enc : TypeId × Value → H} {P : Program} {w W W' : World} {base : Nat}

theorem args_open {r : Reach} {d : Nat} : ∀ (Ts : List Ty) (ts : List TypeId) (vs : List Value) (ds : List (DataW H)) (p : List MemPlace), tysOk P d ts Ts = true → DataW.TrodAll enc P W 0 (fun _ => true) true ts vs ds p →
    (∀ (j : Nat) t v, ts[j]? = some t → vs[j]? = some v → Value.okWide P W r base t v) → ∃ a : Args (ros Ts), ArgRel W (Lo W) (ros Ts) a vs [] ∧ WfArgs Ts a ∧ ds.length = Ts.length
  | [], [], vs, ds, p, _, h, _ => by
    obtain ⟨rfl, rfl, rfl⟩ := trodAll_nil h
    exact ⟨(), ⟨rfl, rfl⟩, trivial, rfl⟩
  | [], _ :: _, _, _, _, h, _, _ => by simp [tysOk] at h
  | _ :: _, [], _, _, _, h, _, _ => by simp [tysOk] at h
  | T :: Ts, t :: ts, vs, ds, p, hty, h, hok => by
    simp only [tysOk, Bool.and_eq_true] at hty
    obtain ⟨v, vs', dd, ds', q, q', rfl, rfl, rfl, hd, hrest⟩ := trodAll_cons h
    obtain ⟨a, h1, h2, h3⟩ := args_open Ts ts vs' ds' q' hty.2 hrest (fun j t' v' hj hv => hok (j + 1) t' v' (by simpa using hj) (by simpa using hv))
    obtain ⟨fuel, hf⟩ := hd
    obtain ⟨x, r1, r2⟩ := rd_of_trod d T t fuel _ _ hty.1 hf
    have hv := not_agg_of hty.1 (hok 0 t v rfl rfl)
    refine ⟨(x, a), ⟨v.cells.toList, vs', by rw [← hv], r1, h1⟩, ⟨r2, h2⟩, by simp [h3]⟩

theorem trodAll_below (hl : laidOutB P = true) (hb : Below W.heap.size W W') : ∀ (ts : List TypeId) (vs : List Value) (ds : List (DataW H)) (p : List MemPlace), (∀ t ∈ ts, P.readableRec t = true ∧ t < P.types.size) →
    DataW.TrodAll enc P W 0 (fun _ => true) true ts vs ds p → (∀ x ∈ p, x.block < W.heap.size) → DataW.TrodAll enc P W' 0 (fun b => decide (b < W.heap.size)) true ts vs ds p
  | [], vs, ds, p, _, h, _ => by
    obtain ⟨rfl, rfl, rfl⟩ := trodAll_nil h
    rfl
  | t :: ts, vs, ds, p, hr, h, hp => by
    obtain ⟨v, vs', dd, ds', q, q', rfl, rfl, rfl, hd, hrest⟩ := trodAll_cons h
    refine ⟨q, q', ?_, ?_, rfl⟩
    · exact Below.trod hl (hr t (by simp)).1 (hr t (by simp)).2 hd hb (fun x hx => hp x (List.mem_append.2 (.inl hx)))
    · exact trodAll_below hl hb ts vs' ds' q' (fun u hu => hr u (by simp [hu])) hrest (fun x hx => hp x (List.mem_append.2 (.inr hx)))

theorem row_lifted {C : Checked} {os : Os} {f : FuncId} {fn : Func} {s : ChangeSpec} {conds : List PathCond} {Ts : List Ty} {tb : TypeId} {d : Nat} {F : Nat → Args (ros Ts) → Option (Res [.own .bool] × Outs (ros Ts))}
    (own : ownKnob C.prog.godebug = none) (started : os.Started) (noInit : C.prog.inits.idxOf? f = none) (hfn : C.prog.funcs[f]? = some fn)
    (witness : ∃ (w : World) (tape : Tape) (i : Input), w.os = os ∧ (w.forCall tape i).Shaped C.prog ∧ i.vars = [] ∧ Input.okWide C.prog (w.forCall tape i) .any w.heap.size f i ∧
      s.pre6 enc C.prog fn conds false (w.forCall tape i).memory i.args ∧ ({} : Assume).holds C.prog (lone (Frame.enter C.prog f i.args .normal) [] (w.forCall tape i)))
    (hl : laidOutB C.prog = true) (hread0 : (fn.params.toList.all fun t => C.prog.readableRec t && Nat.blt t C.prog.types.size) = true)
    (hty : tysOk C.prog d fn.params.toList Ts = true) (hres : fn.resultTypes = #[tb]) (hb : C.prog.underlying tb = some .bool)
    (hvars : s.vars = []) (hspec : ∀ (ds : List (DataW H)), ds.length = Ts.length → s.fn H ds = { results := [.lit (.bool true)], args := ds })
    (hs : ∀ k, Sound C.prog f ⟨ros Ts, [.own .bool], F k⟩)
    (hp : ∀ a, WfArgs Ts a → ∃ k o, F k a = some ((true, ()), o)) :
    ReturnsInHanded {} C os f .any (s.pre6 enc C.prog fn conds false) (s.post enc C.prog fn false true false false) := by
  have hread : ∀ t ∈ fn.params.toList, C.prog.readableRec t = true ∧ t < C.prog.types.size := by
    intro t ht
    have := List.all_eq_true.1 hread0 t ht
    simp only [Bool.and_eq_true] at this
    exact ⟨this.1, Nat.le_of_ble_eq_true this.2⟩
  refine returnsInHanded_of_change_sized own started noInit hfn witness ?_
  intro W base args ds gs before hval hW _ _ _
  have hW' := hW
  obtain ⟨p, q, hA, hV, rfl, _, _⟩ := hW
  rw [hvars] at hV
  obtain ⟨rfl, rfl⟩ := trodVars_none hV
  have hval' : ∀ (j : Nat) t v, fn.params.toList[j]? = some t → args.toList[j]? = some v → Value.okWide C.prog W .any base t v := by
    intro j t v hj hv
    exact hval j t v (by simpa using hj) (by simpa using hv)
  obtain ⟨a, h1, h2, h3⟩ := args_open Ts fn.params.toList args.toList ds p hty hA hval'
  obtain ⟨k, o, hF⟩ := hp a h2
  have hcall := (hs k).2 W (Lo W) a args.toList [] ((true, ()), o) hF h1 (fun _ hb => hb) List.nodup_nil (fun g hg => by cases hg)
  simp only [Array.toArray_toList] at hcall
  refine hcall.mono ?_
  intro e W' he
  cases e with
  | returned v =>
    obtain ⟨S1, us, hr, hfr, _, _, rfl, hrr, _, _, _⟩ := he.ex
    obtain ⟨cs, us', k1, k2, rfl, _, hcs, hu'⟩ := hrr
    obtain ⟨rfl, rfl⟩ := hu'
    have hcs1 : cs = [.bool true] := hcs.1
    subst hcs1
    have bel : Below W.heap.size W W' := ⟨hfr.os, hfr.tape, hfr.output, hfr.size, fun k hk => hfr.block k hk (by simp [blocks])⟩
    refine ⟨_, rfl, ds, [], _, [], p, [], hW', ?_, ?_, ?_, ?_, fun h => by cases h⟩
    · rw [List.append_nil, hspec ds h3, hres]
      exact trodAll_mk1 (shut_bool hb _)
    · rw [List.append_nil, hspec ds h3]
      exact trodAll_below hl bel _ _ _ _ hread hA (DataW.TrodAll.lt hA)
    · rw [List.append_nil, hspec ds h3, hvars]
      rfl
    · exact bel.frame _
  | _ => exact he.elim
end
end Go.AM
end
