import Derived.Test.YthagkkmbbncclaaDoorMvDat
import Derived.RangeFuncNested
namespace Go.Mv
open Go

def keys (H : Mem) : List Nat := H.map (·.1)
@[simp] theorem keys_nil : keys [] = [] := rfl
@[simp] theorem keys_cons (e : Nat × Obj) (H : Mem) : keys (e :: H) = e.1 :: keys H := rfl
@[simp] theorem keys_append (A B : Mem) : keys (A ++ B) = keys A ++ keys B := by simp [keys]
theorem mem_keys {H : Mem} {k : Nat} : k ∈ keys H ↔ ∃ e ∈ H, e.1 = k := by simp [keys]

theorem Hp.perm {A B : Mem} {w : World} (h : Hp A w) (hp : A.Perm B) : Hp B w :=
  ⟨fun e he => h.at_ e (hp.mem_iff.2 he), (hp.pairwise_iff (fun {a b} (hne : a.1 ≠ b.1) => hne.symm)).1 h.ne⟩

theorem Hp.append {A B : Mem} {w : World} (hA : Hp A w) (hB : Hp B w) (h : ∀ a ∈ A, ∀ b ∈ B, a.1 ≠ b.1) : Hp (A ++ B) w :=
  ⟨fun e he => (List.mem_append.1 he).elim (hA.at_ e) (hB.at_ e), List.pairwise_append.2 ⟨hA.ne, hB.ne, h⟩⟩

/-- Facts of blocks that are not turned. -/
theorem Hp.stay {A : Mem} {w w' : World} {X : List Nat} (hA : Hp A w) (hf : Fr w X w') (h : ∀ a ∈ A, a.1 ∉ X) : Hp A w' :=
  ⟨fun e he => (hf.block e.1 (hA.lt he) (h e he)).trans (hA.at_ e he), hA.ne⟩

/-- Behind a call that turned the blocks of R. -/
theorem St.after {w0 w w' : World} {X0 : List Nat} {A R H1 : Mem} (hs : St w0 X0 (A ++ R) w) (hX : ∀ e ∈ R, w0.heap.size ≤ e.1 ∨ e.1 ∈ X0) (hf : Fr w (keys R) w') (hp : Hp H1 w') (hn : ∀ e ∈ H1, e.1 ∈ keys R ∨ w.heap.size ≤ e.1) :
    St w0 X0 (A ++ H1) w' ∧ ∀ e ∈ H1, w0.heap.size ≤ e.1 ∨ e.1 ∈ X0 := by
  have hdis : ∀ a ∈ A, ∀ b ∈ R, a.1 ≠ b.1 := (List.pairwise_append.1 hs.hp.ne).2.2
  refine ⟨⟨hs.fr.trans hf (fun y hy => ?_), ?_⟩, fun e he => ?_⟩
  · obtain ⟨e, he, rfl⟩ := mem_keys.1 hy
    exact (hX e he).symm
  · refine (hs.hp.left.stay hf (fun a ha hk => ?_)).append hp (fun a ha b hb => ?_)
    · obtain ⟨e, he, hek⟩ := mem_keys.1 hk
      exact hdis a ha e he hek.symm
    · rcases hn b hb with h' | h'
      · obtain ⟨e, he, hek⟩ := mem_keys.1 h'
        rw [← hek]; exact hdis a ha e he
      · have := hs.hp.left.lt ha; omega
  · rcases hn e he with h' | h'
    · obtain ⟨f, hf', hfk⟩ := mem_keys.1 h'
      rw [← hfk]; exact hX f hf'
    · exact .inl (Nat.le_trans hs.fr.size h')

def Yd (P : Program) (l : Nat) (args : List Value) (W : World) (R : Ending → World → Prop) : Prop := YieldAt (Fw none) 0 P l args.toArray W R

section te
variable {P : Program} {rd : Option Nat} {ops : Array Oper} {p : Pst} {q : List Nat} {C : Ctx} {L M : Mem} {k : Nat} {tr : Tr} {E : Env}
variable {d : Nat} {ty : TypeId} {ps : String} {af : Array Edge} {g : Option (Nat × Bool)}

theorem perm_mid (A R L : Mem) : (A ++ R ++ L).Perm (A ++ L ++ R) := by
  rw [List.append_assoc, List.append_assoc]
  exact List.Perm.append_left A List.perm_append_comm

theorem St.perm {w0 w : World} {X : List Nat} {A B : Mem} (h : St w0 X A w) (hp : A.Perm B) : St w0 X B w := ⟨h.fr, h.hp.perm hp⟩

/-- A call that turns the blocks from place n on. -/
theorem TE_callS {f : Operand} {xs : Array Operand} {ats : Array TypeId} {fid : FuncId} {fs cap : Array Value} {vs : List Value} {post : Value → Mem → Prop} (n : Nat) (ho : ops[k]? = some ⟨some d, .call ⟨.value f, xs, ats⟩, ty, ps, af, g⟩) (hl : ld ops q k = true) (hg : GOK ops E g)
    (hen : ∀ args w, (callFunc fid args).run P w = .ok (.enter fid args) w) (hf : evalE E f = some (.func (.func fid) fs cap)) (ha : evalL E xs.toList = some vs) (hd : Nat.blt d C.N = true)
    {A R : Mem} (hA : M.take n = A) (hR : M.drop n = R) (hX : ∀ e ∈ R, C.w0.heap.size ≤ e.1 ∨ e.1 ∈ C.X)
    (hc : ∀ w, St C.w0 C.X (M ++ L) w → Calls P fid (fs.toList ++ vs ++ cap.toList).toArray w (Ret w (keys R) post))
    (h : ∀ v H1, post v H1 → (∀ e ∈ H1, C.w0.heap.size ≤ e.1 ∨ e.1 ∈ C.X) → TE P rd ops p q C L tr ((d, v) :: E) (A ++ H1)) : TE P rd ops p q C L (.op k tr) E M :=
  TE_loud ho hl hg rfl fun a w hr hs => by
    rw [run_call_go hen (fun x u hu => hr.eval hu) hf ha w]
    refine ⟨fun h => by simp [Fw] at h, ?_⟩
    have hcc : CallsIn (Fw rd) 0 P fid (fs.toList ++ vs ++ cap.toList).toArray w (Ret w (keys R) post) := (callsIn_wide (n := 0)).2 (hc w hs)
    refine CallsIn.mono hcc ?_
    rintro e w' ⟨v, H1, rfl, hp, hfr, hH1, hnew⟩
    have hM : M = A ++ R := by rw [← hA, ← hR, List.take_append_drop]
    have hs' : St C.w0 C.X (A ++ L ++ R) w := by rw [hM] at hs; exact hs.perm (perm_mid A R L)
    obtain ⟨h1, h2⟩ := hs'.after hX hfr hH1 hnew
    have h1' : St C.w0 C.X (A ++ H1 ++ L) w' := h1.perm (perm_mid A L H1)
    exact ⟨h1'.hp.right, h v H1 hp h2 _ _ (hr.put (by simpa using hd) v) h1'⟩

/-- A call of yield. -/
theorem TE_yield {f : Operand} {xs : Array Operand} {ats : Array TypeId} {l : Nat} {vs : List Value} {post : Value → Mem → Prop} (n : Nat) (ho : ops[k]? = some ⟨some d, .call ⟨.value f, xs, ats⟩, ty, ps, af, g⟩) (hl : ld ops q k = true) (hg : GOK ops E g)
    (hf : evalE E f = some (.func (.yield l) #[] #[])) (ha : evalL E xs.toList = some vs) (hd : Nat.blt d C.N = true)
    {A R : Mem} (hA : M.take n = A) (hR : M.drop n = R) (hX : ∀ e ∈ R, C.w0.heap.size ≤ e.1 ∨ e.1 ∈ C.X)
    (hc : ∀ w, St C.w0 C.X (M ++ L) w → Yd P l vs w (Ret w (keys R) post))
    (h : ∀ v H1, post v H1 → (∀ e ∈ H1, C.w0.heap.size ≤ e.1 ∨ e.1 ∈ C.X) → TE P rd ops p q C L tr ((d, v) :: E) (A ++ H1)) : TE P rd ops p q C L (.op k tr) E M :=
  TE_loud ho hl hg rfl fun a w hr hs => by
    obtain ⟨fn, tmps, assign, body, hy, hR'⟩ := hc w hs
    have e1 : xs.map a.eval = vs.toArray := by apply Array.toList_inj.1; simpa using evalL_map (fun x u hu => hr.eval hu) _ _ ha
    have hrun : (execOp a.eval ⟨some d, .call ⟨.value f, xs, ats⟩, ty, ps, af, g⟩).run P w = .ok (.round l fn tmps assign body) w := by
      simp only [execOp, resolve, hr.eval hf, e1, Deferred.ofValue]
      simp only [Sem.run_bind, Sem.run_pure, Result.andThen_ok, invoke]
      simpa using hy
    rw [hrun]
    refine ⟨fun h => by simp [Fw] at h, ?_⟩
    refine RoundIn.mono (F := Fw rd) (n := 0) hR' ?_
    rintro e w' ⟨v, H1, rfl, hp, hfr, hH1, hnew⟩
    have hM : M = A ++ R := by rw [← hA, ← hR, List.take_append_drop]
    have hs' : St C.w0 C.X (A ++ L ++ R) w := by rw [hM] at hs; exact hs.perm (perm_mid A R L)
    obtain ⟨h1, h2⟩ := hs'.after hX hfr hH1 hnew
    have h1' : St C.w0 C.X (A ++ H1 ++ L) w' := h1.perm (perm_mid A L H1)
    exact ⟨h1'.hp.right, h v H1 hp h2 _ _ (hr.put (by simpa using hd) v) h1'⟩
end te

/-- THE CONTRACT OF AN ITERATOR: a function that is handed yield: it yields xs, one by one, till a round says no more. HI: what it holds at the begin (its own); FI: what it holds at the end, behind a first part of xs. HJ s: what the caller's rounds hold and turn. -/
def Iter {α : Type} (P : Program) (gf : FuncId) (lb : List Value) (encs : α → List Value) (HI : Mem) (xs : List α) (FI : List α → Mem → Prop) : Prop :=
  ∀ (σ : Type) (l : Nat) (HJ : σ → Mem) (G S : List α → σ → Prop) (w : World) (s0 : σ), G [] s0 → Hp (HI ++ HJ s0) w →
    (∀ pre x s W, G pre s → (pre ++ [x]) <+: xs → Fr w (keys (HI ++ HJ s0)) W → Hp (HJ s) W →
      Yd P l (encs x) W (Ret W (keys (HJ s)) fun v H1 => ∃ s', H1 = HJ s' ∧ ((v = .bool true ∧ G (pre ++ [x]) s') ∨ (v = .bool false ∧ S (pre ++ [x]) s')))) →
    Calls P gf (.func (.yield l) #[] #[] :: lb).toArray w (Ret w (keys (HI ++ HJ s0)) fun _ H1 => ∃ s' HI', H1 = HI' ++ HJ s' ∧ ((G xs s' ∧ FI xs HI') ∨ ∃ pre, pre <+: xs ∧ S pre s' ∧ FI pre HI'))

theorem Fr.putObj {w0 w : World} {X : List Nat} (h : Fr w0 X w) (l : Nat) (o : Obj) (hl : l ∈ X ∨ w0.heap.size ≤ l) : Fr w0 X (w.putObj l o) :=
  ⟨h.os, h.tape, h.output, by simpa using h.size, fun k hk hX => by
    rw [World.putObj_heap_other]
    · exact h.block k hk hX
    · rintro rfl
      rcases hl with h' | h'
      · exact hX h'
      · omega⟩

theorem Hp.putObj {H : Mem} {w : World} {l : Nat} {o o' : Obj} (h : Hp ((l, o) :: H) w) : Hp ((l, o') :: H) (w.putObj l o') := by
  have hlt := h.lt (e := (l, o)) (by simp)
  have hne := List.pairwise_cons.1 h.ne
  refine ⟨fun e he => ?_, List.pairwise_cons.2 ⟨hne.1, hne.2⟩⟩
  rcases List.mem_cons.1 he with rfl | he
  · exact World.putObj_heap_same hlt
  · rw [World.putObj_heap_other (Ne.symm (hne.1 e he))]
    exact h.at_ e (by simp [he])

/-- Slots of the frame of a round: yield's parameters. -/
def psE : List Nat → List Value → Env → Env
  | t :: ts, v :: vs, E => psE ts vs ((t, v) :: E)
  | _, _, E => E

theorem rep_params {N : Nat} : ∀ (ts : List Nat) (vs : List Value) (E : Env) (a : Act), Rep N [] E a → (∀ t ∈ ts, t < N) →
    Rep N [] (psE ts vs E) { tmps := (ts.zip vs).foldl (fun t (p, v) => t.setIfInBounds p v) a.tmps, defers := [] }
  | [], vs, E, a, h, _ => by cases vs <;> exact ⟨h.size, rfl, h.get⟩
  | t :: ts, [], E, a, h, _ => ⟨h.size, rfl, h.get⟩
  | t :: ts, v :: vs, E, a, h, ht => by
    have h1 := h.put (d := t) (ht t (by simp)) v
    exact rep_params ts vs ((t, v) :: E) (a.put (some t) v) h1 (fun x hx => ht x (by simp [hx]))

theorem pn_again {C : Ctx} {E : Env} {H : Mem} {σ : Type} {EE : σ → Env} {HH : σ → Mem} {I : σ → Prop} {μ : σ → Nat} {n : Nat} (s' : σ) (hI : I s') (hm : μ s' < n) (hE : Keeps E (EE s')) (hH : (HH s').Sublist H) :
    PN C (fun a w => ∃ s', I s' ∧ μ s' < n ∧ Rep C.N C.ds (EE s') a ∧ St C.w0 C.X (HH s') w) E H := fun a w hr hs => ⟨s', hI, hm, hr.keeps hE, hs.fr, hs.hp.sub hH⟩

def pickT (H : Mem) (is : List Nat) (n : Nat) : Mem := pick H is ++ H.drop n

section range
variable {P : Program} {p : Pst} {C : Ctx} {E : Env} {H : Mem}

/-- What is asked at a round's end. -/
def EndR {σ : Type} (W : World) (l : Nat) (HJ : σ → Mem) (s : σ) (R : Mem) (G : σ → Prop) : Act → World → Prop := fun _ w =>
  ∃ s', G s' ∧ St W (l :: keys (HJ s)) (HJ s' ++ R) w ∧ ∀ e ∈ HJ s', e.1 ∈ keys (HJ s) ∨ W.heap.size ≤ e.1

def bodyP {α σ : Type} (W : World) (l : Nat) (HJ : σ → Mem) (s : σ) (R : Mem) (G : List α → σ → Prop) (S : Code → List α → σ → Prop) (xs : List α) : Pst :=
  { n := EndR W l HJ s R (G xs), r := EndR W l HJ s R (S .ret xs), x := fun i => EndR W l HJ s R (S (.exit i) xs), g := fun t => EndR W l HJ s R (S (.goto t) xs) }

theorem pn_rangeH {α σ τ : Type} {g : Operand} {pl : List Nat} {assign body : Code} {gf : FuncId} {lb : List Value} {encs : α → List Value} {HI HR : Mem} {xs : List α} {FI : List α → Mem → Prop} (it : Iter P gf lb encs HI xs FI)
    (HJ : σ → Mem) (G : List α → σ → Prop) (S : Code → List α → σ → Prop) (s0 : σ) (h0 : G [] s0)
    (hg : evalE E g = some (.func (.func gf) #[] lb.toArray)) (hen : ∀ args w, (callFunc gf args).run P w = .ok (.enter gf args) w)
    (hps : ∀ x, (encs x).length = pl.length) (hpl : (pl.all fun t => Nat.blt t C.N) = true)
    (hH : ∀ w, Hp H w → Hp (HI ++ (HJ s0 ++ HR)) w)
    (hw : ∀ e ∈ HI ++ HJ s0, C.w0.heap.size ≤ e.1 ∨ e.1 ∈ C.X)
    (EA : α → τ → Env) (HA : α → τ → Mem) (A : World → τ → Prop)
    (hassign : ∀ (W : World) (l : Nat) (pre : List α) (x : α) (s : σ) (R : Mem), Fr C.w0 C.X W → G pre s → (pre ++ [x]) <+: xs →
      PN ⟨C.N, [], W, l :: keys (HJ s)⟩ (WP P (some l) assign ⟨fun a w => ∃ t, A W t ∧ Rep C.N [] (EA x t) a ∧ St W (l :: keys (HJ s)) (HA x t ++ (HJ s ++ (HR ++ R))) w, fun _ _ => False, fun _ _ _ => False, fun _ _ _ => False⟩) (psE pl (encs x) E) (HJ s ++ (HR ++ R)))
    (hbody : ∀ (W : World) (l : Nat) (pre : List α) (x : α) (s : σ) (t : τ) (R : Mem), Fr C.w0 C.X W → G pre s → (pre ++ [x]) <+: xs → A W t →
      PN ⟨C.N, [], W, l :: keys (HJ s)⟩ (WP P (some l) body (bodyP W l HJ s R G S (pre ++ [x]))) (EA x t) (HA x t ++ (HJ s ++ (HR ++ R))))
    (hdone : ∀ (D : Nat) (HI' : Mem) (s : σ), C.w0.heap.size ≤ D → G xs s → FI xs HI' → PN ⟨C.N, { target := .collected D, args := #[] } :: C.ds, C.w0, C.X⟩ p.n E (HJ s ++ (HI' ++ ((D, .deferred (some [])) :: HR))))
    (hstop : ∀ (D : Nat) (HI' : Mem) (c : Code) (pre : List α) (s : σ), C.w0.heap.size ≤ D → pre <+: xs → S c pre s → FI pre HI' → PN ⟨C.N, { target := .collected D, args := #[] } :: C.ds, C.w0, C.X⟩ (WP P none c p) E (HJ s ++ (HI' ++ ((D, .deferred (some [])) :: HR)))) :
    PN C (WP P none (.rangeFunc g pl.toArray assign body) p) E H := fun a w hr hs => by
  have hpk : Hp (HI ++ (HJ s0 ++ HR)) w := hH w hs.hp
  refine wpIn_rangeFunc ?_
  intro fn hfn
  obtain ⟨rec, hrec⟩ : ∃ rec : LoopState → Option Code → Loop, rec = fun st pe => { state := st, pending := pe, fn, tmps := a.tmps, params := pl.toArray, assign, body, defers := w.heap.size } := ⟨_, rfl⟩
  obtain ⟨D, hD⟩ : ∃ D, D = w.heap.size := ⟨_, rfl⟩
  obtain ⟨l, hl⟩ : ∃ l, l = w.heap.size + 1 := ⟨_, rfl⟩
  obtain ⟨W1, hW1⟩ : ∃ W1, (w.alloc (.deferred (some []))).alloc (.loop (rec .ready none)) = W1 := ⟨_, rfl⟩
  -- what lies in W1
  have hst1 : St C.w0 C.X ((l, .loop (rec .ready none)) :: (D, .deferred (some [])) :: (HI ++ (HJ s0 ++ HR))) W1 := by
    have h1 := (St.new (w0 := C.w0) (X := C.X) ⟨hs.fr, hpk⟩ (.deferred (some []))).new (.loop (rec .ready none))
    rw [← hW1, hl, hD]; simpa using h1
  -- the caller's rounds as the iterator sees them
  let HJ' : σ × Option Code → Mem := fun s => (l, .loop (rec (if s.2.isNone then .ready else .done) s.2)) :: (D, .deferred (some [])) :: HJ s.1
  have hHp1 : Hp (HI ++ HJ' (s0, none)) W1 := by
    refine (hst1.hp.sub (H' := (l, .loop (rec .ready none)) :: (D, .deferred (some [])) :: (HI ++ HJ s0)) ?_).perm ?_
    · refine List.Sublist.cons_cons _ (List.Sublist.cons_cons _ ?_)
      rw [← List.append_assoc]; exact List.sublist_append_left _ _
    · show ((([(l, .loop (rec .ready none)), (D, .deferred (some []))] : Mem) ++ HI) ++ HJ s0).Perm (HI ++ (([(l, .loop (rec .ready none)), (D, .deferred (some []))] : Mem) ++ HJ s0))
      rw [← List.append_assoc]
      exact List.Perm.append_right _ List.perm_append_comm
  have hlW1 : l < W1.heap.size := hst1.hp.lt (e := (l, .loop (rec .ready none))) (by simp)
  have hDW1 : D < W1.heap.size := hst1.hp.lt (e := (D, .deferred (some []))) (by simp)
  have hCl : C.w0.heap.size ≤ l := by have := hs.fr.size; omega
  have hCD : C.w0.heap.size ≤ D := by have := hs.fr.size; omega
  have hX1 : ∀ e ∈ HI ++ HJ' (s0, none), C.w0.heap.size ≤ e.1 ∨ e.1 ∈ C.X := by
    intro e he
    simp only [HJ', List.mem_append, List.mem_cons] at he
    rcases he with he | rfl | rfl | he
    · exact hw e (by simp [he])
    · exact .inl hCl
    · exact .inl hCD
    · exact hw e (by simp [he])
  have hne1 := List.pairwise_cons.1 hst1.hp.ne
  have hne2 := List.pairwise_cons.1 hne1.2
  have hne3 := List.pairwise_append.1 hne2.2
  have hne4 := List.pairwise_append.1 hne3.2.1
  have hHR1 : Hp HR W1 := hst1.hp.sub (by
    refine List.Sublist.cons _ (List.Sublist.cons _ ?_)
    rw [← List.append_assoc]; exact List.sublist_append_right _ _)
  have hHRX : ∀ e ∈ HR, e.1 ∉ keys (HI ++ HJ' (s0, none)) := by
    intro e he hk'
    obtain ⟨f, hf, hfe⟩ := mem_keys.1 hk'
    simp only [HJ', List.mem_append, List.mem_cons] at hf
    rcases hf with hf | rfl | rfl | hf
    · exact hne3.2.2 f hf e (by simp [he]) hfe
    · exact hne1.1 e (by simp [he]) hfe
    · exact hne2.1 e (by simp [he]) hfe
    · exact hne4.2.2 f hf e he hfe
  have hHRlt : ∀ e ∈ HR, e.1 < W1.heap.size := fun e he => hHR1.lt he
  have hkeys0 : ∀ e ∈ HJ s0, e.1 ∈ keys (HI ++ HJ' (s0, none)) := fun e he => mem_keys.2 ⟨e, by simp [HJ', he], rfl⟩
  refine ⟨l, [{ target := .collected D, args := #[] }], W1, { target := .fn (.func gf) lb.toArray, args := #[.func (.yield l) #[] #[]] }, W1, gf, (.func (.yield l) #[] #[] :: lb).toArray, W1, ?_, ?_, ?_, ?_, ?_, ?_⟩
  · rw [← hW1, hrec, hl, hD]; exact run_enterLoop_outer _ _ _ _ _
  · simp only [resolve, hr.eval hg]
    simp [go_sem]
  · intro f' _; trivial
  · simp only [invoke]
    have : (#[Value.func (Fn.yield l) #[] #[]] ++ lb.toArray) = (.func (.yield l) #[] #[] :: lb).toArray := by apply Array.toList_inj.1; simp
    rw [this]; exact hen _ _
  · intro h; simp [Fw] at h
  let G' : List α → σ × Option Code → Prop := fun pre s => s.2 = none ∧ G pre s.1 ∧ ∀ e ∈ HJ s.1, e.1 ∈ keys (HJ s0) ∨ W1.heap.size ≤ e.1
  let S' : List α → σ × Option Code → Prop := fun pre s => (∃ c, s.2 = some c ∧ S c pre s.1) ∧ ∀ e ∈ HJ s.1, e.1 ∈ keys (HJ s0) ∨ W1.heap.size ≤ e.1
  have hcall := it (σ × Option Code) l HJ' G' S' W1 (s0, none) ⟨rfl, h0, fun e he => .inl (mem_keys.2 ⟨e, he, rfl⟩)⟩ hHp1 ?_
  · refine (CallsIn.mono (F := Fw none) (n := 0) (callsIn_wide.2 hcall) ?_)
    rintro e W2 ⟨v, H1, rfl, ⟨⟨s', st⟩, HI', rfl, hcase⟩, hfr2, hHp2, hnew2⟩
    have hl2 : W2.heap[l]? = some (.loop (rec (if st.isNone then .ready else .done) st)) := hHp2.at_ (l, _) (by simp [HJ'])
    have hend := run_endLoop (P := P) hl2 (by rw [hrec]; cases st <;> simp)
    have hHR2 : Hp HR W2 := hHR1.stay hfr2 hHRX
    have hdis2 : ∀ f ∈ HI' ++ HJ' (s', st), ∀ e ∈ HR, f.1 ≠ e.1 := by
      intro f hf e he hfe
      rcases hnew2 f hf with h' | h'
      · exact hHRX e he (hfe ▸ h')
      · have := hHRlt e he; omega
    have hall2 : Hp ((HI' ++ HJ' (s', st)) ++ HR) W2 := hHp2.append hHR2 hdis2
    have hfr02 : Fr C.w0 C.X W2 := hst1.fr.trans hfr2 (fun y hy => by
      obtain ⟨e, he, rfl⟩ := mem_keys.1 hy
      exact (hX1 e he).symm)
    have hperm : ((HI' ++ HJ' (s', st)) ++ HR).Perm ((l, .loop (rec (if st.isNone then .ready else .done) st)) :: (HJ s' ++ (HI' ++ ((D, .deferred (some [])) :: HR)))) := by
      show ((HI' ++ ((l, .loop (rec (if st.isNone then .ready else .done) st)) :: (D, .deferred (some [])) :: HJ s')) ++ HR).Perm _
      refine List.Perm.trans (List.Perm.append_right HR List.perm_middle) ?_
      simp only [List.cons_append]
      refine List.Perm.cons _ ?_
      refine List.Perm.trans (List.Perm.append_right HR (List.perm_append_comm)) ?_
      simp only [List.cons_append, List.append_assoc]
      refine List.Perm.trans ?_ (List.Perm.append_left (HJ s') List.perm_middle.symm)
      exact List.perm_middle.symm
    have hst3 : ∀ o', St C.w0 C.X (HJ s' ++ (HI' ++ ((D, .deferred (some [])) :: HR))) (W2.putObj l o') := fun o' =>
      ⟨hfr02.putObj l o' (.inr hCl), ((hall2.perm hperm).putObj (o' := o')).sub (List.sublist_cons_self _ _)⟩
    have hrep3 : Rep C.N ({ target := .collected D, args := #[] } :: C.ds) E { a with defers := [{ target := .collected D, args := #[] }] ++ a.defers } := ⟨hr.size, by simp [hr.defers], hr.get⟩
    refine ⟨_, _, hend, ?_⟩
    rcases hcase with ⟨⟨hst, hG, _⟩, hF⟩ | ⟨pre, hpre, ⟨⟨c, hst, hS⟩, _⟩, hF⟩
    · simp only at hst
      subst hst
      rw [show (rec (if Option.isNone (none : Option Code) then .ready else .done) none).pending = none from by rw [hrec]]
      exact hdone D HI' s' hCD hG hF _ _ hrep3 (hst3 _)
    · simp only at hst
      subst hst
      rw [show (rec (if Option.isNone (some c) then .ready else .done) (some c)).pending = some c from by rw [hrec]]
      exact hstop D HI' c pre s' hCD hpre hS hF _ _ hrep3 (hst3 _)
  · -- ONE ROUND
    rintro pre x ⟨s, st⟩ W ⟨hst, hG, hsk⟩ hpre hfrW hHpW
    simp only at hst hG hsk
    subst hst
    have hlW : W.heap[l]? = some (.loop (rec .ready none)) := hHpW.at_ (l, _) (by simp [HJ'])
    have hy := run_yield (P := P) (args := (encs x).toArray) hlW (by rw [hrec]; simp [hps])
    rw [hrec] at hy
    refine ⟨fn, _, assign, body, hy, roundIn_of_wpIn hfn ?_⟩
    have hHRW : Hp HR W := hHR1.stay hfrW hHRX
    have hfr0W : Fr C.w0 C.X W := hst1.fr.trans hfrW (fun y hy => by
      obtain ⟨e, he, rfl⟩ := mem_keys.1 hy
      exact (hX1 e he).symm)
    have hdisR : ∀ f ∈ HJ' (s, none), ∀ e ∈ HR, f.1 ≠ e.1 := by
      intro f hf e he hfe
      simp only [HJ', List.mem_cons] at hf
      rcases hf with rfl | rfl | hf
      · exact hne1.1 e (by simp [he]) hfe
      · exact hne2.1 e (by simp [he]) hfe
      · rcases hsk f hf with h' | h'
        · obtain ⟨f', hf', hk'⟩ := mem_keys.1 h'
          exact hne4.2.2 f' hf' e he (hk'.trans hfe)
        · have := hHRlt e he; omega
    have hallW : Hp (HJ' (s, none) ++ HR) W := hHpW.append hHRW hdisR
    have hpermR : ∀ (o : Obj), ((l, o) :: (D, .deferred (some [])) :: (HJ s ++ HR)).Perm (HJ s ++ (HR ++ [(l, o), (D, .deferred (some []))])) := fun o => by
      rw [← List.append_assoc]
      exact List.perm_append_comm (l₁ := ([(l, o), (D, .deferred (some []))] : Mem))
    have hstW : St W (l :: keys (HJ s)) (HJ s ++ (HR ++ [(l, .loop (rec .ready none)), (D, .deferred (some []))])) W := ⟨Fr.refl _ _, hallW.perm (hpermR _)⟩
    have hrepW := rep_params pl (encs x) E { tmps := a.tmps, defers := [] } ⟨hr.size, rfl, hr.get⟩ (fun t ht => by
      have := List.all_eq_true.1 hpl t ht; simpa using this)
    have hfold : ((pl.toArray.zip (encs x).toArray).foldl (fun tmps (x : Nat × Value) => tmps.setIfInBounds x.1 x.2) a.tmps) = (pl.zip (encs x)).foldl (fun t (p, v) => t.setIfInBounds p v) a.tmps := by
      rw [← Array.foldl_toList]; simp
    have hasg := hassign W l pre x s _ hfr0W hG hpre _ W hrepW hstW
    simp only at hy
    rw [show ((pl.toArray.zip (encs x).toArray).foldl (fun tmps (x : Nat × Value) => match x with | (t, a) => tmps.setIfInBounds t a) a.tmps) = (pl.zip (encs x)).foldl (fun t (p, v) => t.setIfInBounds p v) a.tmps from hfold]
    refine wpIn_mono (F := Fw (some l)) hasg ?_
    intro e a1 w1 q
    cases e with
    | normal =>
      obtain ⟨t, hA, hrep1, hst1'⟩ := q
      have hl1 : w1.heap[l]? = some (.loop (rec .ready none)) := hst1'.hp.at_ (l, _) (by simp)
      refine ⟨_, run_beginRound hl1 (by rw [hrec]), ?_⟩
      have hbusy : ({ rec .ready none with state := .busy } : Loop) = rec .busy none := by rw [hrec]
      rw [hbusy]
      have hperm2 : ∀ (o : Obj), (HA x t ++ (HJ s ++ (HR ++ [(l, o), (D, .deferred (some []))]))).Perm ((l, o) :: (HA x t ++ (HJ s ++ (HR ++ [(D, .deferred (some []))])))) := fun o => by
        have e1 : HA x t ++ (HJ s ++ (HR ++ [(l, o), (D, .deferred (some []))])) = (HA x t ++ (HJ s ++ HR)) ++ (l, o) :: [(D, .deferred (some []))] := by simp
        have e2 : HA x t ++ (HJ s ++ (HR ++ [(D, .deferred (some []))])) = (HA x t ++ (HJ s ++ HR)) ++ [(D, .deferred (some []))] := by simp
        rw [e1, e2]; exact List.perm_middle
      have hst2 : St W (l :: keys (HJ s)) (HA x t ++ (HJ s ++ (HR ++ [(l, .loop (rec .busy none)), (D, .deferred (some []))]))) (w1.putObj l (.loop (rec .busy none))) :=
        ⟨hst1'.fr.putObj l _ (.inl (by simp)), ((hst1'.hp.perm (hperm2 _)).putObj).perm (hperm2 _).symm⟩
      have hbd := hbody W l pre x s t _ hfr0W hG hpre hA _ _ hrep1 hst2
      refine wpIn_mono (F := Fw (some l)) hbd ?_
      have fin : ∀ (jump : Option Code) (w3 : World) (s' : σ), St W (l :: keys (HJ s)) (HJ s' ++ [(l, .loop (rec .busy none)), (D, .deferred (some []))]) w3 → (∀ e ∈ HJ s', e.1 ∈ keys (HJ s) ∨ W.heap.size ≤ e.1) →
          (Instr.endRound l jump).run P w3 = .ok (.bool jump.isNone) (w3.putObj l (.loop (rec (if jump.isNone then .ready else .done) jump))) ∧
          Fr W (keys (HJ' (s, none))) (w3.putObj l (.loop (rec (if jump.isNone then .ready else .done) jump))) ∧ Hp (HJ' (s', jump)) (w3.putObj l (.loop (rec (if jump.isNone then .ready else .done) jump))) ∧
          (∀ e ∈ HJ' (s', jump), e.1 ∈ keys (HJ' (s, none)) ∨ W.heap.size ≤ e.1) ∧ (∀ e ∈ HJ s', e.1 ∈ keys (HJ s0) ∨ W1.heap.size ≤ e.1) := by
        intro jump w3 s' hst3 hnew3
        have hl3 : w3.heap[l]? = some (.loop (rec .busy none)) := hst3.hp.at_ (l, _) (by simp)
        have hr3 := run_endRound (P := P) jump hl3
        have heq : ({ rec .busy none with state := if jump.isNone then .ready else .done, pending := jump } : Loop) = rec (if jump.isNone then .ready else .done) jump := by rw [hrec]
        rw [heq] at hr3
        have hp3 : ∀ o : Obj, (HJ s' ++ [(l, o), (D, .deferred (some []))]).Perm ((l, o) :: (D, .deferred (some [])) :: HJ s') := fun o => List.perm_append_comm (l₂ := ([(l, o), (D, .deferred (some []))] : Mem))
        refine ⟨hr3, ?_, ((hst3.hp.perm (hp3 _)).putObj), ?_, ?_⟩
        · refine (hst3.fr.putObj l _ (.inl (by simp))).mono ?_
          intro y hy
          simp only [HJ', keys_cons, List.mem_cons] at hy ⊢
          rcases hy with rfl | hy
          · exact .inl rfl
          · exact .inr (.inr hy)
        · intro e he
          simp only [HJ', List.mem_cons, keys_cons] at he ⊢
          rcases he with rfl | rfl | he
          · exact .inl (.inl rfl)
          · exact .inl (.inr (.inl rfl))
          · rcases hnew3 e he with h' | h'
            · exact .inl (.inr (.inr h'))
            · exact .inr h'
        · intro e he
          rcases hnew3 e he with h' | h'
          · obtain ⟨f, hf, hfe⟩ := mem_keys.1 h'
            rw [← hfe]; exact hsk f hf
          · exact .inr (Nat.le_trans hfrW.size h')
      intro e a3 w3 q
      cases e with
      | normal =>
        obtain ⟨s', hG', hst3, hnew3⟩ := q
        obtain ⟨hr3, hf3, hh3, hn3, hk3⟩ := fin none w3 s' hst3 hnew3
        exact ⟨_, _, hr3, _, HJ' (s', none), rfl, ⟨(s', none), rfl, .inl ⟨rfl, rfl, hG', hk3⟩⟩, hf3, hh3, hn3⟩
      | ret =>
        obtain ⟨s', hS', hst3, hnew3⟩ := q
        obtain ⟨hr3, hf3, hh3, hn3, hk3⟩ := fin (some .ret) w3 s' hst3 hnew3
        exact ⟨_, _, hr3, _, HJ' (s', some .ret), rfl, ⟨(s', some .ret), rfl, .inr ⟨rfl, ⟨_, rfl, hS'⟩, hk3⟩⟩, hf3, hh3, hn3⟩
      | exit i =>
        obtain ⟨s', hS', hst3, hnew3⟩ := q
        obtain ⟨hr3, hf3, hh3, hn3, hk3⟩ := fin (some (.exit i)) w3 s' hst3 hnew3
        exact ⟨_, _, hr3, _, HJ' (s', some (.exit i)), rfl, ⟨(s', some (.exit i)), rfl, .inr ⟨rfl, ⟨_, rfl, hS'⟩, hk3⟩⟩, hf3, hh3, hn3⟩
      | goto t =>
        obtain ⟨s', hS', hst3, hnew3⟩ := q
        obtain ⟨hr3, hf3, hh3, hn3, hk3⟩ := fin (some (.goto t)) w3 s' hst3 hnew3
        exact ⟨_, _, hr3, _, HJ' (s', some (.goto t)), rfl, ⟨(s', some (.goto t)), rfl, .inr ⟨rfl, ⟨_, rfl, hS'⟩, hk3⟩⟩, hf3, hh3, hn3⟩
      | panic c => exact q.elim
      | outgrown => exact q.elim
    | ret => exact q.elim
    | exit i => exact q.elim
    | goto t => exact q.elim
    | panic c => exact q.elim
    | outgrown => exact q.elim

/-- The same where the blocks are told by their places. -/
theorem pn_range {α σ τ : Type} {g : Operand} {pl : List Nat} {assign body : Code} {gf : FuncId} {lb : List Value} {encs : α → List Value} {HI HR : Mem} {xs : List α} {FI : List α → Mem → Prop} (it : Iter P gf lb encs HI xs FI)
    (HJ : σ → Mem) (G : List α → σ → Prop) (S : Code → List α → σ → Prop) (s0 : σ) (h0 : G [] s0)
    (hg : evalE E g = some (.func (.func gf) #[] lb.toArray)) (hen : ∀ args w, (callFunc gf args).run P w = .ok (.enter gf args) w)
    (hps : ∀ x, (encs x).length = pl.length) (hpl : (pl.all fun t => Nat.blt t C.N) = true)
    (is js ks : List Nat) (hi : pick H is = HI) (hj : pick H js = HJ s0) (hk : pick H ks = HR) (hb1 : ((is ++ (js ++ ks)).all fun i => Nat.blt i H.length) = true) (hb2 : nodupN (is ++ (js ++ ks)) = true)
    (hw : ∀ e ∈ HI ++ HJ s0, C.w0.heap.size ≤ e.1 ∨ e.1 ∈ C.X)
    (EA : α → τ → Env) (HA : α → τ → Mem) (A : World → τ → Prop)
    (hassign : ∀ (W : World) (l : Nat) (pre : List α) (x : α) (s : σ) (R : Mem), Fr C.w0 C.X W → G pre s → (pre ++ [x]) <+: xs →
      PN ⟨C.N, [], W, l :: keys (HJ s)⟩ (WP P (some l) assign ⟨fun a w => ∃ t, A W t ∧ Rep C.N [] (EA x t) a ∧ St W (l :: keys (HJ s)) (HA x t ++ (HJ s ++ (HR ++ R))) w, fun _ _ => False, fun _ _ _ => False, fun _ _ _ => False⟩) (psE pl (encs x) E) (HJ s ++ (HR ++ R)))
    (hbody : ∀ (W : World) (l : Nat) (pre : List α) (x : α) (s : σ) (t : τ) (R : Mem), Fr C.w0 C.X W → G pre s → (pre ++ [x]) <+: xs → A W t →
      PN ⟨C.N, [], W, l :: keys (HJ s)⟩ (WP P (some l) body (bodyP W l HJ s R G S (pre ++ [x]))) (EA x t) (HA x t ++ (HJ s ++ (HR ++ R))))
    (hdone : ∀ (D : Nat) (HI' : Mem) (s : σ), C.w0.heap.size ≤ D → G xs s → FI xs HI' → PN ⟨C.N, { target := .collected D, args := #[] } :: C.ds, C.w0, C.X⟩ p.n E (HJ s ++ (HI' ++ ((D, .deferred (some [])) :: HR))))
    (hstop : ∀ (D : Nat) (HI' : Mem) (c : Code) (pre : List α) (s : σ), C.w0.heap.size ≤ D → pre <+: xs → S c pre s → FI pre HI' → PN ⟨C.N, { target := .collected D, args := #[] } :: C.ds, C.w0, C.X⟩ (WP P none c p) E (HJ s ++ (HI' ++ ((D, .deferred (some [])) :: HR)))) :
    PN C (WP P none (.rangeFunc g pl.toArray assign body) p) E H :=
  pn_rangeH it HJ G S s0 h0 hg hen hps hpl (fun w hp => by
    have hpk : Hp (pick H (is ++ (js ++ ks))) w := hp.pick hb1 hb2
    have happ : ∀ (l m : List Nat), pick H (l ++ m) = pick H l ++ pick H m := fun l m => by induction l with
      | nil => rfl
      | cons i l ih => simp [pick, ih]
    rwa [happ, happ, hi, hj, hk] at hpk) hw EA HA A hassign hbody hdone hstop

end range
end Go.Mv
