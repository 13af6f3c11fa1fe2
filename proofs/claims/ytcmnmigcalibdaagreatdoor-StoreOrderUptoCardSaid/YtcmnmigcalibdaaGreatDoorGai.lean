import Derived.Test.YtcmnmigcalibdaaGreatDoorGah
import Derived.Test.YtcmnmigcalibdaaGreatDoorProg
import Derived.Test.YtcmnmigcalibdaaGreatDoorShq
namespace Go.Mv
open Go Go.Proofs
section
/-- Iter with a part HC that is read alone. -/
def IterC {α : Type} (P : Program) (gf : FuncId) (lb : List Value) (encs : α → List Value) (HC HI : Mem) (xs : List α) (FI : List α → Mem → Prop) : Prop :=
  ∀ (σ : Type) (l : Nat) (HJ : σ → Mem) (G S : List α → σ → Prop) (w : World) (s0 : σ), G [] s0 → Hp (HI ++ (HJ s0 ++ HC)) w →
    (∀ pre x s W, G pre s → (pre ++ [x]) <+: xs → Fr w (keys (HI ++ HJ s0)) W → Hp (HJ s) W →
      Yd P l (encs x) W (Ret W (keys (HJ s)) fun v H1 => ∃ s', H1 = HJ s' ∧ ((v = .bool true ∧ G (pre ++ [x]) s') ∨ (v = .bool false ∧ S (pre ++ [x]) s')))) →
    Calls P gf (.func (.yield l) #[] #[] :: lb).toArray w (Ret w (keys (HI ++ HJ s0)) fun _ H1 => ∃ s' HI', H1 = HI' ++ HJ s' ∧ ((G xs s' ∧ FI xs HI') ∨ ∃ pre, pre <+: xs ∧ S pre s' ∧ FI pre HI'))
end
section range
variable {P : Program} {p : Pst} {C : Ctx} {E : Env} {H : Mem}
theorem pn_rangeC {α σ τ : Type} {g : Operand} {pl : List Nat} {assign body : Code} {gf : FuncId} {lb : List Value} {encs : α → List Value} {HC HI HR : Mem} {xs : List α} {FI : List α → Mem → Prop} (it : IterC P gf lb encs HC HI xs FI) (hC : HC.Sublist HR)
    (HJ : σ → Mem) (G : List α → σ → Prop) (S : Code → List α → σ → Prop) (s0 : σ) (h0 : G [] s0)
    (hg : evalE E g = some (.func (.func gf) #[] lb.toArray)) (hen : ∀ args w, (callFunc gf args).run P w = .ok (.enter gf args) w)
    (hps : ∀ x, (encs x).length = pl.length) (hpl : (pl.all fun t => Nat.blt t C.N) = true)
    (hH : ∀ w, Hp H w → Hp (HI ++ (HJ s0 ++ HR)) w)
    (hw : ∀ e ∈ HI ++ HJ s0, C.w0.heap.size ≤ e.1 ∨ e.1 ∈ C.X)
    (EA : α → τ → Env) (HA : α → τ → Mem) (A : World → τ → Prop)
    (hassign : ∀ (W : World) (l : Nat) (pre : List α) (x : α) (s : σ) (R : Mem), Fr C.w0 C.X W → G pre s → (pre ++ [x]) <+: xs →
      PN ⟨C.N, [], W, l :: keys (HJ s)⟩ (WP P (some l) assign ⟨fun a w => ∃ t, A W t ∧ Rep C.N [] (EA x t) a ∧ St W (l :: keys (HJ s)) (HA x t ++ (HJ s ++ (HR ++ R))) w, fun _ _ => False, fun _ _ _ => False, fun _ _ _ => False⟩) (psE pl (encs x) E) (HJ s ++ (HR ++ R)))
    (hbody : ∀ (W : World) (l : Nat) (pre : List α) (x : α) (s : σ) (t : τ) (R : Mem), Fr C.w0 C.X W → G pre s → (pre ++ [x]) <+: xs → A W t →
      PN ⟨C.N, [], W, l :: keys (HJ s)⟩ (WP P (some l) body (bodyP W l HJ s R G S (pre ++ [x]))) (EA x t) (HA x t ++ (HJ s ++ (HR ++ R))))
    (hdone : ∀ (D : Nat) (HI' : Mem) (s : σ), C.w0.heap.size ≤ D → G xs s → FI xs HI' → PN ⟨C.N, { target := .collected D, args := #[] } :: C.ds, C.w0, C.X⟩ p.n E (HJ s ++ (HI' ++ ((D, .deferred (some [])) :: HR))))
    (hstop : ∀ (D : Nat) (HI' : Mem) (c : Code) (pre : List α) (s : σ), C.w0.heap.size ≤ D → pre <+: xs → S c pre s → FI pre HI' → PN ⟨C.N, { target := .collected D, args := #[] } :: C.ds, C.w0, C.X⟩ (WP P none c p) E (HJ s ++ (HI' ++ ((D, .deferred (some [])) :: HR)))) :
    PN C (WP P none (.rangeFunc g pl.toArray assign body) p) E H := fun a w hr hs => by
  have hpk : Hp (HI ++ (HJ s0 ++ HR)) w := hH w hs.hp
  refine wpIn_rangeFunc ?_
  intro fn hfn
  obtain ⟨rec, hrec⟩ : ∃ rec : LoopState → Option Code → Loop, rec = fun st pe => { state := st, pending := pe, fn, tmps := a.tmps, params := pl.toArray, assign, body, defers := w.heap.size } := ⟨_, rfl⟩
  obtain ⟨D, hD⟩ : ∃ D, D = w.heap.size := ⟨_, rfl⟩
  obtain ⟨l, hl⟩ : ∃ l, l = w.heap.size + 1 := ⟨_, rfl⟩
  obtain ⟨W1, hW1⟩ : ∃ W1, (w.alloc (.deferred (some []))).alloc (.loop (rec .ready none)) = W1 := ⟨_, rfl⟩
  -- what lies in W1
  have hst1 : St C.w0 C.X ((l, .loop (rec .ready none)) :: (D, .deferred (some [])) :: (HI ++ (HJ s0 ++ HR))) W1 := by
    have h1 := (St.new (w0 := C.w0) (X := C.X) ⟨hs.fr, hpk⟩ (.deferred (some []))).new (.loop (rec .ready none))
    rw [← hW1, hl, hD]; simpa using h1
  -- the caller's rounds as the iterator sees them
  let HJ' : σ × Option Code → Mem := fun s => (l, .loop (rec (if s.2.isNone then .ready else .done) s.2)) :: (D, .deferred (some [])) :: HJ s.1
  have hHp1 : Hp (HI ++ (HJ' (s0, none) ++ HC)) W1 := by
    refine (hst1.hp.sub (H' := (l, .loop (rec .ready none)) :: (D, .deferred (some [])) :: (HI ++ (HJ s0 ++ HC))) ?_).perm ?_
    · exact List.Sublist.cons_cons _ (List.Sublist.cons_cons _ (List.Sublist.append_left (List.Sublist.append_left hC _) _))
    · show ((([(l, .loop (rec .ready none)), (D, .deferred (some []))] : Mem) ++ HI) ++ (HJ s0 ++ HC)).Perm (HI ++ (([(l, .loop (rec .ready none)), (D, .deferred (some []))] : Mem) ++ (HJ s0 ++ HC)))
      rw [← List.append_assoc HI]
      exact List.Perm.append_right _ List.perm_append_comm
  have hlW1 : l < W1.heap.size := hst1.hp.lt (e := (l, .loop (rec .ready none))) (by simp)
  have hDW1 : D < W1.heap.size := hst1.hp.lt (e := (D, .deferred (some []))) (by simp)
  have hCl : C.w0.heap.size ≤ l := by have := hs.fr.size; omega
  have hCD : C.w0.heap.size ≤ D := by have := hs.fr.size; omega
  have hX1 : ∀ e ∈ HI ++ HJ' (s0, none), C.w0.heap.size ≤ e.1 ∨ e.1 ∈ C.X := by
    intro e he
    simp only [HJ', List.mem_append, List.mem_cons] at he
    rcases he with he | rfl | rfl | he
    · exact hw e (by simp [he])
    · exact .inl hCl
    · exact .inl hCD
    · exact hw e (by simp [he])
  have hne1 := List.pairwise_cons.1 hst1.hp.ne
  have hne2 := List.pairwise_cons.1 hne1.2
  have hne3 := List.pairwise_append.1 hne2.2
  have hne4 := List.pairwise_append.1 hne3.2.1
  have hHR1 : Hp HR W1 := hst1.hp.sub (by
    refine List.Sublist.cons _ (List.Sublist.cons _ ?_)
    rw [← List.append_assoc]; exact List.sublist_append_right _ _)
  have hHRX : ∀ e ∈ HR, e.1 ∉ keys (HI ++ HJ' (s0, none)) := by
    intro e he hk'
    obtain ⟨f, hf, hfe⟩ := mem_keys.1 hk'
    simp only [HJ', List.mem_append, List.mem_cons] at hf
    rcases hf with hf | rfl | rfl | hf
    · exact hne3.2.2 f hf e (by simp [he]) hfe
    · exact hne1.1 e (by simp [he]) hfe
    · exact hne2.1 e (by simp [he]) hfe
    · exact hne4.2.2 f hf e he hfe
  have hHRlt : ∀ e ∈ HR, e.1 < W1.heap.size := fun e he => hHR1.lt he
  have hkeys0 : ∀ e ∈ HJ s0, e.1 ∈ keys (HI ++ HJ' (s0, none)) := fun e he => mem_keys.2 ⟨e, by simp [HJ', he], rfl⟩
  refine ⟨l, [{ target := .collected D, args := #[] }], W1, { target := .fn (.func gf) lb.toArray, args := #[.func (.yield l) #[] #[]] }, W1, gf, (.func (.yield l) #[] #[] :: lb).toArray, W1, ?_, ?_, ?_, ?_, ?_, ?_⟩
  · rw [← hW1, hrec, hl, hD]; exact run_enterLoop_outer _ _ _ _ _
  · simp only [resolve, hr.eval hg]
    simp [go_sem]
  · intro f' _; trivial
  · simp only [invoke]
    have : (#[Value.func (Fn.yield l) #[] #[]] ++ lb.toArray) = (.func (.yield l) #[] #[] :: lb).toArray := by apply Array.toList_inj.1; simp
    rw [this]; exact hen _ _
  · intro h; simp [Fw] at h
  let G' : List α → σ × Option Code → Prop := fun pre s => s.2 = none ∧ G pre s.1 ∧ ∀ e ∈ HJ s.1, e.1 ∈ keys (HJ s0) ∨ W1.heap.size ≤ e.1
  let S' : List α → σ × Option Code → Prop := fun pre s => (∃ c, s.2 = some c ∧ S c pre s.1) ∧ ∀ e ∈ HJ s.1, e.1 ∈ keys (HJ s0) ∨ W1.heap.size ≤ e.1
  have hcall := it (σ × Option Code) l HJ' G' S' W1 (s0, none) ⟨rfl, h0, fun e he => .inl (mem_keys.2 ⟨e, he, rfl⟩)⟩ hHp1 ?_
  · refine (CallsIn.mono (F := Fw none) (n := 0) (callsIn_wide.2 hcall) ?_)
    rintro e W2 ⟨v, H1, rfl, ⟨⟨s', st⟩, HI', rfl, hcase⟩, hfr2, hHp2, hnew2⟩
    have hl2 : W2.heap[l]? = some (.loop (rec (if st.isNone then .ready else .done) st)) := hHp2.at_ (l, _) (by simp [HJ'])
    have hend := run_endLoop (P := P) hl2 (by rw [hrec]; cases st <;> simp)
    have hHR2 : Hp HR W2 := hHR1.stay hfr2 hHRX
    have hdis2 : ∀ f ∈ HI' ++ HJ' (s', st), ∀ e ∈ HR, f.1 ≠ e.1 := by
      intro f hf e he hfe
      rcases hnew2 f hf with h' | h'
      · exact hHRX e he (hfe ▸ h')
      · have := hHRlt e he; omega
    have hall2 : Hp ((HI' ++ HJ' (s', st)) ++ HR) W2 := hHp2.append hHR2 hdis2
    have hfr02 : Fr C.w0 C.X W2 := hst1.fr.trans hfr2 (fun y hy => by
      obtain ⟨e, he, rfl⟩ := mem_keys.1 hy
      exact (hX1 e he).symm)
    have hperm : ((HI' ++ HJ' (s', st)) ++ HR).Perm ((l, .loop (rec (if st.isNone then .ready else .done) st)) :: (HJ s' ++ (HI' ++ ((D, .deferred (some [])) :: HR)))) := by
      show ((HI' ++ ((l, .loop (rec (if st.isNone then .ready else .done) st)) :: (D, .deferred (some [])) :: HJ s')) ++ HR).Perm _
      refine List.Perm.trans (List.Perm.append_right HR List.perm_middle) ?_
      simp only [List.cons_append]
      refine List.Perm.cons _ ?_
      refine List.Perm.trans (List.Perm.append_right HR (List.perm_append_comm)) ?_
      simp only [List.cons_append, List.append_assoc]
      refine List.Perm.trans ?_ (List.Perm.append_left (HJ s') List.perm_middle.symm)
      exact List.perm_middle.symm
    have hst3 : ∀ o', St C.w0 C.X (HJ s' ++ (HI' ++ ((D, .deferred (some [])) :: HR))) (W2.putObj l o') := fun o' =>
      ⟨hfr02.putObj l o' (.inr hCl), ((hall2.perm hperm).putObj (o' := o')).sub (List.sublist_cons_self _ _)⟩
    have hrep3 : Rep C.N ({ target := .collected D, args := #[] } :: C.ds) E { a with defers := [{ target := .collected D, args := #[] }] ++ a.defers } := ⟨hr.size, by simp [hr.defers], hr.get⟩
    refine ⟨_, _, hend, ?_⟩
    rcases hcase with ⟨⟨hst, hG, _⟩, hF⟩ | ⟨pre, hpre, ⟨⟨c, hst, hS⟩, _⟩, hF⟩
    · simp only at hst
      subst hst
      rw [show (rec (if Option.isNone (none : Option Code) then .ready else .done) none).pending = none from by rw [hrec]]
      exact hdone D HI' s' hCD hG hF _ _ hrep3 (hst3 _)
    · simp only at hst
      subst hst
      rw [show (rec (if Option.isNone (some c) then .ready else .done) (some c)).pending = some c from by rw [hrec]]
      exact hstop D HI' c pre s' hCD hpre hS hF _ _ hrep3 (hst3 _)
  · -- ONE ROUND
    rintro pre x ⟨s, st⟩ W ⟨hst, hG, hsk⟩ hpre hfrW hHpW
    simp only at hst hG hsk
    subst hst
    have hlW : W.heap[l]? = some (.loop (rec .ready none)) := hHpW.at_ (l, _) (by simp [HJ'])
    have hy := run_yield (P := P) (args := (encs x).toArray) hlW (by rw [hrec]; simp [hps])
    rw [hrec] at hy
    refine ⟨fn, _, assign, body, hy, roundIn_of_wpIn hfn ?_⟩
    have hHRW : Hp HR W := hHR1.stay hfrW hHRX
    have hfr0W : Fr C.w0 C.X W := hst1.fr.trans hfrW (fun y hy => by
      obtain ⟨e, he, rfl⟩ := mem_keys.1 hy
      exact (hX1 e he).symm)
    have hdisR : ∀ f ∈ HJ' (s, none), ∀ e ∈ HR, f.1 ≠ e.1 := by
      intro f hf e he hfe
      simp only [HJ', List.mem_cons] at hf
      rcases hf with rfl | rfl | hf
      · exact hne1.1 e (by simp [he]) hfe
      · exact hne2.1 e (by simp [he]) hfe
      · rcases hsk f hf with h' | h'
        · obtain ⟨f', hf', hk'⟩ := mem_keys.1 h'
          exact hne4.2.2 f' hf' e he (hk'.trans hfe)
        · have := hHRlt e he; omega
    have hallW : Hp (HJ' (s, none) ++ HR) W := hHpW.append hHRW hdisR
    have hpermR : ∀ (o : Obj), ((l, o) :: (D, .deferred (some [])) :: (HJ s ++ HR)).Perm (HJ s ++ (HR ++ [(l, o), (D, .deferred (some []))])) := fun o => by
      rw [← List.append_assoc]
      exact List.perm_append_comm (l₁ := ([(l, o), (D, .deferred (some []))] : Mem))
    have hstW : St W (l :: keys (HJ s)) (HJ s ++ (HR ++ [(l, .loop (rec .ready none)), (D, .deferred (some []))])) W := ⟨Fr.refl _ _, hallW.perm (hpermR _)⟩
    have hrepW := rep_params pl (encs x) E { tmps := a.tmps, defers := [] } ⟨hr.size, rfl, hr.get⟩ (fun t ht => by
      have := List.all_eq_true.1 hpl t ht; simpa using this)
    have hfold : ((pl.toArray.zip (encs x).toArray).foldl (fun tmps (x : Nat × Value) => tmps.setIfInBounds x.1 x.2) a.tmps) = (pl.zip (encs x)).foldl (fun t (p, v) => t.setIfInBounds p v) a.tmps := by
      rw [← Array.foldl_toList]; simp
    have hasg := hassign W l pre x s _ hfr0W hG hpre _ W hrepW hstW
    simp only at hy
    rw [show ((pl.toArray.zip (encs x).toArray).foldl (fun tmps (x : Nat × Value) => match x with | (t, a) => tmps.setIfInBounds t a) a.tmps) = (pl.zip (encs x)).foldl (fun t (p, v) => t.setIfInBounds p v) a.tmps from hfold]
    refine wpIn_mono (F := Fw (some l)) hasg ?_
    intro e a1 w1 q
    cases e with
    | normal =>
      obtain ⟨t, hA, hrep1, hst1'⟩ := q
      have hl1 : w1.heap[l]? = some (.loop (rec .ready none)) := hst1'.hp.at_ (l, _) (by simp)
      refine ⟨_, run_beginRound hl1 (by rw [hrec]), ?_⟩
      have hbusy : ({ rec .ready none with state := .busy } : Loop) = rec .busy none := by rw [hrec]
      rw [hbusy]
      have hperm2 : ∀ (o : Obj), (HA x t ++ (HJ s ++ (HR ++ [(l, o), (D, .deferred (some []))]))).Perm ((l, o) :: (HA x t ++ (HJ s ++ (HR ++ [(D, .deferred (some []))])))) := fun o => by
        have e1 : HA x t ++ (HJ s ++ (HR ++ [(l, o), (D, .deferred (some []))])) = (HA x t ++ (HJ s ++ HR)) ++ (l, o) :: [(D, .deferred (some []))] := by simp
        have e2 : HA x t ++ (HJ s ++ (HR ++ [(D, .deferred (some []))])) = (HA x t ++ (HJ s ++ HR)) ++ [(D, .deferred (some []))] := by simp
        rw [e1, e2]; exact List.perm_middle
      have hst2 : St W (l :: keys (HJ s)) (HA x t ++ (HJ s ++ (HR ++ [(l, .loop (rec .busy none)), (D, .deferred (some []))]))) (w1.putObj l (.loop (rec .busy none))) :=
        ⟨hst1'.fr.putObj l _ (.inl (by simp)), ((hst1'.hp.perm (hperm2 _)).putObj).perm (hperm2 _).symm⟩
      have hbd := hbody W l pre x s t _ hfr0W hG hpre hA _ _ hrep1 hst2
      refine wpIn_mono (F := Fw (some l)) hbd ?_
      have fin : ∀ (jump : Option Code) (w3 : World) (s' : σ), St W (l :: keys (HJ s)) (HJ s' ++ [(l, .loop (rec .busy none)), (D, .deferred (some []))]) w3 → (∀ e ∈ HJ s', e.1 ∈ keys (HJ s) ∨ W.heap.size ≤ e.1) →
          (Instr.endRound l jump).run P w3 = .ok (.bool jump.isNone) (w3.putObj l (.loop (rec (if jump.isNone then .ready else .done) jump))) ∧
          Fr W (keys (HJ' (s, none))) (w3.putObj l (.loop (rec (if jump.isNone then .ready else .done) jump))) ∧ Hp (HJ' (s', jump)) (w3.putObj l (.loop (rec (if jump.isNone then .ready else .done) jump))) ∧
          (∀ e ∈ HJ' (s', jump), e.1 ∈ keys (HJ' (s, none)) ∨ W.heap.size ≤ e.1) ∧ (∀ e ∈ HJ s', e.1 ∈ keys (HJ s0) ∨ W1.heap.size ≤ e.1) := by
        intro jump w3 s' hst3 hnew3
        have hl3 : w3.heap[l]? = some (.loop (rec .busy none)) := hst3.hp.at_ (l, _) (by simp)
        have hr3 := run_endRound (P := P) jump hl3
        have heq : ({ rec .busy none with state := if jump.isNone then .ready else .done, pending := jump } : Loop) = rec (if jump.isNone then .ready else .done) jump := by rw [hrec]
        rw [heq] at hr3
        have hp3 : ∀ o : Obj, (HJ s' ++ [(l, o), (D, .deferred (some []))]).Perm ((l, o) :: (D, .deferred (some [])) :: HJ s') := fun o => List.perm_append_comm (l₂ := ([(l, o), (D, .deferred (some []))] : Mem))
        refine ⟨hr3, ?_, ((hst3.hp.perm (hp3 _)).putObj), ?_, ?_⟩
        · refine (hst3.fr.putObj l _ (.inl (by simp))).mono ?_
          intro y hy
          simp only [HJ', keys_cons, List.mem_cons] at hy ⊢
          rcases hy with rfl | hy
          · exact .inl rfl
          · exact .inr (.inr hy)
        · intro e he
          simp only [HJ', List.mem_cons, keys_cons] at he ⊢
          rcases he with rfl | rfl | he
          · exact .inl (.inl rfl)
          · exact .inl (.inr (.inl rfl))
          · rcases hnew3 e he with h' | h'
            · exact .inl (.inr (.inr h'))
            · exact .inr h'
        · intro e he
          rcases hnew3 e he with h' | h'
          · obtain ⟨f, hf, hfe⟩ := mem_keys.1 h'
            rw [← hfe]; exact hsk f hf
          · exact .inr (Nat.le_trans hfrW.size h')
      intro e a3 w3 q
      cases e with
      | normal =>
        obtain ⟨s', hG', hst3, hnew3⟩ := q
        obtain ⟨hr3, hf3, hh3, hn3, hk3⟩ := fin none w3 s' hst3 hnew3
        exact ⟨_, _, hr3, _, HJ' (s', none), rfl, ⟨(s', none), rfl, .inl ⟨rfl, rfl, hG', hk3⟩⟩, hf3, hh3, hn3⟩
      | ret =>
        obtain ⟨s', hS', hst3, hnew3⟩ := q
        obtain ⟨hr3, hf3, hh3, hn3, hk3⟩ := fin (some .ret) w3 s' hst3 hnew3
        exact ⟨_, _, hr3, _, HJ' (s', some .ret), rfl, ⟨(s', some .ret), rfl, .inr ⟨rfl, ⟨_, rfl, hS'⟩, hk3⟩⟩, hf3, hh3, hn3⟩
      | exit i =>
        obtain ⟨s', hS', hst3, hnew3⟩ := q
        obtain ⟨hr3, hf3, hh3, hn3, hk3⟩ := fin (some (.exit i)) w3 s' hst3 hnew3
        exact ⟨_, _, hr3, _, HJ' (s', some (.exit i)), rfl, ⟨(s', some (.exit i)), rfl, .inr ⟨rfl, ⟨_, rfl, hS'⟩, hk3⟩⟩, hf3, hh3, hn3⟩
      | goto t =>
        obtain ⟨s', hS', hst3, hnew3⟩ := q
        obtain ⟨hr3, hf3, hh3, hn3, hk3⟩ := fin (some (.goto t)) w3 s' hst3 hnew3
        exact ⟨_, _, hr3, _, HJ' (s', some (.goto t)), rfl, ⟨(s', some (.goto t)), rfl, .inr ⟨rfl, ⟨_, rfl, hS'⟩, hk3⟩⟩, hf3, hh3, hn3⟩
      | panic c => exact q.elim
      | outgrown => exact q.elim
    | ret => exact q.elim
    | exit i => exact q.elim
    | goto t => exact q.elim
    | panic c => exact q.elim
    | outgrown => exact q.elim

end range
end Go.Mv

namespace Go.Proofs.YtcmnmigcalibdaaGreatDoor
open Go Go.Mv
def dotOk (s c : Int) : Bool := decide (0 ≤ s ∧ s < 16 ∧ 1 ≤ c ∧ c ≤ 4294967295)
theorem dotOk_iff {s c : Int} : dotOk s c = true ↔ 0 ≤ s ∧ s < 16 ∧ 1 ≤ c ∧ c ≤ 4294967295 := by simp [dotOk]
end Go.Proofs.YtcmnmigcalibdaaGreatDoor

namespace Go.Proofs.YtcmnmigcalibdaaGreatDoor
open Go Go.Mv
set_option maxRecDepth 4000
theorem elByte : ElI Tryz.prog 5 1 1 (.int .u8 0) := by unfold ElI; kernel_rfl

end Go.Proofs.YtcmnmigcalibdaaGreatDoor

namespace Go.Proofs.YtcmnmigcalibdaaGreatDoor
open Go.Proofs.Tryz
open Go Go.Mv
set_option maxRecDepth 4000
theorem c_clone (H : Mem) (xv : Value) (ys : List UInt8) (w : World) (hH : Hp H w) (hb : BytesIn H xv ys) (hlen : ys.length ≤ 2199023255552) : Calls Tryz.prog 105 #[xv] w (Ret w [] fun v H1 => RetB 5 v H1 ys) := by
 have hb0 := hb
 obtain ⟨a, c, rfl, hb⟩ := hb
 refine fn_enter (args := [_]) func105 rfl ntmps105 rfl hH (sq (pl (qa rfl (n0 (sq (sq (pl (qm rfl (qq rfl (RD.sl_eql_nil runUnderlying32 rfl rfl) ?_)))))))))
 refine n0 ?_
 rcases a with _ | ad
 ·have hy : ys = [] := Classical.byContradiction fun h => by obtain ⟨_, h', _⟩ := hb h; cases h'
  subst hy
  exact pn_condT rfl (sq (pl (qa rfl (n0 (rt (pn_done rfl rfl (.inr ⟨rfl, rfl, rfl⟩) (List.nil_sublist _) (by simp)))))))
 ·refine pn_condF rfl (sk (sq (pl (TE_buildSlice0 rfl runUnderlying32 sizeOf5 trivial rfl fun b5 hb5 => (qm rfl ?_)))))
  by_cases hy : ys = []
  ·subst hy
   exact ql rfl (RD.append0 underlying32 elByte rfl rfl (Nat.zero_le _)) (qa rfl (n0 (rt (pn_done rfl rfl (.inl ⟨b5, 0, [], rfl, rfl, Nat.zero_le _, by decide, rfl⟩) (List.Sublist.cons_cons _ (List.nil_sublist _)) (by simp; exact hb5)))))
  ·refine TE_appendS (i := 0) (n := 0) (xs := []) (tl := []) (ys := bcells ys) rfl rfl trivial rfl underlying32 elByte rfl rfl rfl rfl rfl rfl rfl (Nat.le_refl _) (by decide) (hb0.src hy (fun w hw => hw.left.sub (List.sublist_cons_self _ _))) (by simp) (bcells_one _) (List.length_pos_iff.2 hy) (maxLen_ge (by omega)) (by omega) (.inl hb5) ?_
   intro b' cap' tl' h1 h2 h3 h4
   exact qa rfl (n0 (rt (pn_done rfl rfl (.inl ⟨b', cap', tl', by show Value.slice _ (0 + ys.length) _ = _; rw [Nat.zero_add], rfl, by omega, h2, by simpa using h3⟩) (List.Sublist.cons_cons _ (List.nil_sublist _)) (by simp; rcases h4 with rfl | h4; exact hb5; exact h4))))
end Go.Proofs.YtcmnmigcalibdaaGreatDoor

namespace Go.Proofs.YtcmnmigcalibdaaGreatDoor
open Go Go.Mv
set_option maxRecDepth 4000
def byteBad (b : UInt8) : Bool := decide (b.toNat < 33) || decide (126 < b.toNat) || decide (0 ≤ Lib.indexByte [126, 94, 58, 63, 42, 91, 92] b)
def byByteB (s : ByteArray) : Bool := s.data.toList.any byteBad
end Go.Proofs.YtcmnmigcalibdaaGreatDoor

namespace Go.Proofs.YtcmnmigcalibdaaGreatDoor
open Go Go.Mv
set_option maxRecDepth 4000
def pLong (s : ByteArray) : Bool := decide (s = ⟨#[]⟩) || decide (100 < (s.size : Int))
def pEmpty (s : ByteArray) : Bool := decide (s = ⟨#[]⟩)
def pDot (s : ByteArray) : Bool := Lib.hasPrefix s.data.toList [46]
def pLock (s : ByteArray) : Bool := Lib.hasSuffix s.data.toList [46, 108, 111, 99, 107]
def pEnd (s : ByteArray) : Bool := Lib.hasSuffix s.data.toList [46]
def pHas (u : ByteArray) (s : ByteArray) : Bool := Lib.contains s.data.toList u.data.toList
def pPart (f : ByteArray → Bool) (s : ByteArray) : Bool := (partsOf s).any f
end Go.Proofs.YtcmnmigcalibdaaGreatDoor

namespace Go.Proofs.YtcmnmigcalibdaaGreatDoor
open Go Go.Mv
set_option maxRecDepth 4000
def brk (n : Int) (s : ByteArray) : Bool := bif decide (n = 1) then pLong s else bif decide (n = 2) then byByteB s else bif decide (n = 3) then pPart pEmpty s else bif decide (n = 4) then pPart pDot s else bif decide (n = 5) then pHas ⟨#[46, 46]⟩ s else bif decide (n = 6) then pPart pLock s else bif decide (n = 7) then pEnd s else pHas ⟨#[64, 123]⟩ s
/-- P4.1: the first rule that a name breaks. -/
def breaksN (s : ByteArray) : Int := (([1, 2, 3, 4, 5, 6, 7, 8] : List Int).find? fun n => brk n s).getD 0
end Go.Proofs.YtcmnmigcalibdaaGreatDoor

namespace Go.Proofs.YtcmnmigcalibdaaGreatDoor
open Go Go.Mv
set_option maxRecDepth 8000
theorem info_u8 : Tryz.prog.info? 5 = some Tryz.t5 := by kernel_rfl
theorem cells_u8 : Tryz.prog.cellsOf 5 = 1 := by kernel_rfl
theorem eq_id (f g : Nat → Int) (w : World) : (Op.equalIn 10000 35 (.agg (idV f).cells) (.agg (idV g).cells)).run Tryz.prog w = .ok (sameN 32 f g) w :=
  eqIn_ints (d := 9998) (k := .u8) Tryz.underlying35 info_u8 Tryz.underlying5 Tryz.isAgg5 cells_u8 (fun _ hi => ⟨id_at f hi, id_at g hi⟩) w
def tip0 (r : Rec) : Bool := sameN 32 r.tip fun _ => 0
/-- P12.1: a record that may be. -/
def recOkB (r : Rec) : Bool := dotOk r.s r.c && decide (r.ctx r.s.toNat = r.c - 1) && decide (breaksN r.ref = 0) && (r.has || tip0 r)
end Go.Proofs.YtcmnmigcalibdaaGreatDoor

namespace Go.Proofs.YtcmnmigcalibdaaGreatDoor
open Go Go.Mv
set_option maxRecDepth 8000
/-- Two records whose cells are the same. -/
structure SameR (a b : Rec) : Prop where
  s : a.s = b.s
  c : a.c = b.c
  ctx : ∀ i, i < 16 → a.ctx i = b.ctx i
  ref : a.ref = b.ref
  has : a.has = b.has
  tip : ∀ i, i < 32 → a.tip i = b.tip i
theorem sameN_congr {a b c : Nat → Int} (n : Nat) (h : ∀ i, i < n → a i = b i) : sameN n a c = sameN n b c := by
  apply Bool.eq_iff_iff.2
  rw [sameN_iff, sameN_iff]
  exact ⟨fun k i hi => (h i hi).symm.trans (k i hi), fun k i hi => (h i hi).trans (k i hi)⟩
theorem SameR.ok {a b : Rec} (h : SameR a b) : recOkB a = recOkB b := by
  simp only [recOkB]
  rw [show tip0 a = tip0 b from sameN_congr 32 h.tip, h.s, h.c, h.ref, h.has]
  cases hd : dotOk b.s b.c with
  | false => rfl
  | true =>
    have := dotOk_iff.1 hd
    rw [h.ctx b.s.toNat (by omega)]
theorem eqIn_string {P : Program} {T : TypeId} {w : World} {d : Nat} {a b : ByteArray} (hT : P.underlying T = some .string) : (Op.equalIn (d + 1) T (.string a) (.string b)).run P w = .ok (decide (a = b)) w := by
  rw [run_equalIn_string w d T a b hT, string_beq]
end Go.Proofs.YtcmnmigcalibdaaGreatDoor

namespace Go.Proofs.YtcmnmigcalibdaaGreatDoor
open Go Go.Mv
set_option maxRecDepth 8000
def rawD (n : Nat) (ys : List UInt8) : Dr (List UInt8) := if ys.length < n then .err 10 else .ok (ys.take n) (ys.drop n)
def bytesD (most : Nat) (ys : List UInt8) : Dr (List UInt8) :=
  match numD most ys with
  | .err e => .err e
  | .ok n r => rawD n r
def tipOf (l : List UInt8) : Nat → Int := fun i => ((l.getD i 0).toNat : Int)
theorem rawD_ok {n : Nat} {ys b r : List UInt8} (h : rawD n ys = .ok b r) : ys = b ++ r ∧ b.length = n := by
  simp only [rawD] at h
  split at h
  · cases h
  · rename_i hl
    simp only [Dr.ok.injEq] at h
    obtain ⟨rfl, rfl⟩ := h
    exact ⟨(List.take_append_drop n ys).symm, by simp; omega⟩
theorem bytesD_ok {most : Nat} {ys b r : List UInt8} (h : bytesD most ys = .ok b r) : ys = lebL b.length ++ b ++ r ∧ b.length ≤ most := by
  simp only [bytesD] at h
  split at h
  · cases h
  · rename_i n r1 hn
    obtain ⟨h1, h2, _⟩ := numD_ok hn
    obtain ⟨h3, h4⟩ := rawD_ok h
    subst h4
    exact ⟨by rw [h1, h3, List.append_assoc], h2⟩
theorem tipL_tipOf {l : List UInt8} (h : l.length = 32) : tipL (tipOf l) = l := by
  apply List.ext_getElem?
  intro i
  by_cases hi : i < 32
  · have h2 : l[i]? = some (l[i]'(by omega)) := List.getElem?_eq_getElem (by omega)
    simp only [tipL, tipOf, List.getElem?_map, List.getElem?_range hi, Option.map_some, List.getD_eq_getElem?_getD, h2, Option.getD_some, Int.toNat_natCast, UInt8.ofNat_toNat]
  · rw [List.getElem?_eq_none (by rw [tipL_len]; omega), List.getElem?_eq_none (by omega)]
theorem tipOf_tipL {t : Nat → Int} (ht : IdOk t) {i : Nat} (hi : i < 32) : tipOf (tipL t) i = t i := by
  have := ht i
  simp only [tipOf, tipL, List.getD_eq_getElem?_getD, List.getElem?_map, List.getElem?_range hi, Option.map_some, Option.getD_some]
  rw [UInt8.toNat_ofNat_of_lt' (show (t i).toNat < 256 by omega)]; omega

end Go.Proofs.YtcmnmigcalibdaaGreatDoor

namespace Go.Proofs.YtcmnmigcalibdaaGreatDoor
open Go.Proofs.Tryz
open Go Go.Mv
set_option maxRecDepth 8000
def srcM (s : Nat) (v : Value) (HX : Mem) : Mem := (s, .cells #[v] 178 (0, 0)) :: HX
theorem in_src {s n : Nat} {v v' : Value} {HX : Mem} : ∀ e ∈ srcM s v HX, e.1 ∈ keys (srcM s v' HX) ∨ n ≤ e.1 := fun e he => .inl (show e.1 ∈ keys (srcM s v HX) from mem_keys.2 ⟨e, he, rfl⟩)
theorem build_src (a : Option Addr) (n c : Nat) (w : World) : (Instr.build 178 #[(0, .slice a n c)]).run Tryz.prog w = .ok (.agg #[.slice a n c]) w := by
  simp [Instr.build, zeroValue178, runUnderlying178, sizeOf32, Value.cells, Instr.fill]

theorem c_from (HX : Mem) (xv : Value) (ys : List UInt8) (w : World) (hb : BytesIn HX xv ys) (hlen : ys.length ≤ 2199023255552) (hH : Hp HX w) : Calls Tryz.prog 41 #[xv] w (Ret w [] fun v H1 => ∃ s sv H2, v = .pointer (some ⟨s, 0, none⟩) ∧ H1 = srcM s sv H2 ∧ Rdb H2 sv ys) := by
 refine fn_enter (args := [_]) func41 rfl ntmps41 rfl hH (sq (pl (qa rfl (n0 (sq (pl (qm rfl (TE_call rfl rfl trivial call105 rfl rfl rfl (fun w hs' => c_clone HX xv ys w hs'.hp.left hb hlen) ?_))))))))
 rintro v4 H1 hr hX
 obtain ⟨a, c, rfl⟩ := hr.rdb.shape
 exact qq rfl (RD.build rfl (build_src _ _ _)) (TE_box rfl rfl trivial rfl fun b6 hb6 => (qa rfl (n0 (rt (pn_done rfl rfl ⟨b6, _, H1, rfl, rfl, hr.rdb⟩ (List.Sublist.cons_cons _ (List.sublist_append_left _ _)) (allC (Q := fun k => k ∈ _ ∨ _ ≤ k) (.inr hb6) (fun e he => .inr (hX e he))))))))
theorem c_back (s e : Nat) (a : Option Addr) (n c : Nat) (w : World) (hH : Hp [(s, .cells #[.slice a n c] 178 (0, 0))] w) : Calls Tryz.prog 173 #[.pointer (some ⟨s, 0, none⟩), .pointer (some ⟨e, 0, none⟩)] w (Ret w [] fun v H1 => ∃ x2 x3 x5, v = .func (.func 220) #[] #[.pointer (some ⟨x3, 0, none⟩), .pointer (some ⟨x5, 0, none⟩), .pointer (some ⟨x2, 0, none⟩)] ∧ H1 = [(x5, .cells #[.slice a n c] 32 (0, 0)), (x3, .cells #[.pointer (some ⟨e, 0, none⟩)] 270 (0, 0)), (x2, .cells #[.pointer (some ⟨s, 0, none⟩)] 85 (0, 0))]) := by
 refine fn_enter (args := [_, _]) func173 rfl ntmps173 rfl hH (sq (pl (TE_box rfl rfl trivial rfl fun b2 hb2 => (TE_box rfl rfl trivial rfl fun b3 hb3 => (qa rfl (n0 (sq (pl (ql rfl (RD.load (i := 1) isAgg85 rfl rfl rfl) ?_)))))))))
 refine qn rfl (qq rfl (RD.fieldAddr (o := 0) runUnderlying178 rfl rfl sizeOf32 rfl) (ql rfl (RD.load (i := 2) isAgg32 rfl rfl rfl) (TE_alloc rfl zeroValue32 trivial rfl fun b5 hb5 => (TE_store (i := 0) rfl sizeOf32 trivial rfl rfl rfl rfl rfl rfl (.inl (by assumption)) (n0 (sq (pl (qq rfl (RD.makeFunc rfl rfl) (qa rfl ?_)))))))))
 exact n0 (rt (pn_done rfl rfl ⟨b2, b3, b5, rfl, rfl⟩ (List.Sublist.cons_cons _ (List.Sublist.cons_cons _ (List.Sublist.cons_cons _ (List.nil_sublist _)))) (by simp; exact ⟨hb5, hb3, hb2⟩)))
theorem c_back1 (s e x2 x3 x5 : Nat) (a a' : Option Addr) (n c n' c' : Nat) (ev : Int) (w : World) (hw : Hp ([(x5, .cells #[.slice a n c] 32 (0, 0)), (x3, .cells #[.pointer (some ⟨e, 0, none⟩)] 270 (0, 0)), (x2, .cells #[.pointer (some ⟨s, 0, none⟩)] 85 (0, 0)), (e, .cells #[.int .i64 ev] 29 (0, 0))] ++ [(s, .cells #[.slice a' n' c'] 178 (0, 0))]) w) : CallsDf Tryz.prog 220 #[.pointer (some ⟨x3, 0, none⟩), .pointer (some ⟨x5, 0, none⟩), .pointer (some ⟨x2, 0, none⟩)] w (Ret w [s] fun _ H1 => H1 = [(s, .cells #[if ev = 0 then .slice a' n' c' else .slice a n c] 178 (0, 0))]) := by
 refine fn_enterD (args := [_, _, _]) func220 rfl ntmps220 rfl hw (sq (pl (ql rfl (RD.load (i := 1) isAgg270 rfl rfl rfl) (qn rfl (ql rfl (RD.load (i := 3) isAgg29 rfl rfl rfl) (qq rfl (RD.neq rfl rfl) (n0 ?_)))))))
 first | refine pn_condD rfl (fun hc0 => ?_) (fun hc0 => ?_) | refine pn_condN rfl (fun hc0 => ?_) (fun hc0 => ?_) | refine pn_cond rfl (fun hc0 => ?_) (fun hc0 => ?_)
 ·refine pl (ql rfl (RD.load (i := 2) isAgg85 rfl rfl rfl) (ql rfl (RD.load (i := 0) isAgg32 rfl rfl rfl) (qn rfl (qq rfl (RD.fieldAddr (o := 0) runUnderlying178 rfl rfl sizeOf32 rfl) (TE_store (i := 4) rfl sizeOf32 trivial rfl rfl rfl rfl rfl rfl (.inr (by simp)) (n0 ?_))))))
  (rw [if_neg hc0]; exact pn_doneD rfl rfl rfl (fun w h => h.sub (.cons _ (.cons _ (.cons _ (.cons _ (List.Sublist.refl _)))))) (by simp))
 ·refine sk ?_
  (rw [if_pos hc0]; exact pn_doneD rfl rfl rfl (fun w h => h.sub (.cons _ (.cons _ (.cons _ (.cons _ (List.Sublist.refl _)))))) (by simp))
theorem c_next (s : Nat) (w : World) : Calls Tryz.prog 201 #[.pointer (some ⟨s, 0, none⟩)] w (Ret w [] fun v H1 => ∃ x1, v = .func (.func 246) #[] #[.pointer (some ⟨x1, 0, none⟩)] ∧ H1 = [(x1, .cells #[.pointer (some ⟨s, 0, none⟩)] 85 (0, 0))]) := by
 refine fn_enter (args := [_]) func201 rfl ntmps201 rfl (Hp.nil w) (sq (pl (TE_box rfl rfl trivial rfl fun b1 hb1 => (qa rfl (n0 (sq (pl (qq rfl (RD.makeFunc rfl rfl) (qa rfl ?_)))))))))
 exact n0 (rt (pn_done rfl rfl ⟨b1, rfl, rfl⟩ (List.Sublist.refl _) (by simp; exact hb1)))
end Go.Proofs.YtcmnmigcalibdaaGreatDoor

namespace Go.Proofs.YtcmnmigcalibdaaGreatDoor
open Go.Proofs.Tryz
open Go Go.Mv
set_option maxRecDepth 8000
theorem it_next (HX : Mem) (x1 s : Nat) (a : Option Addr) (n c : Nat) (ys : List UInt8) (hb : Rdb HX (.slice a n c) ys) (hlen : ys.length ≤ 4611686018427387904) : Iter Tryz.prog 246 [.pointer (some ⟨x1, 0, none⟩)] (fun x => [bcell x]) ((x1, .cells #[.pointer (some ⟨s, 0, none⟩)] 85 (0, 0)) :: srcM s (.slice a n c) HX) ys (fun pre HI' => ∃ a' n' c', HI' = srcM s (.slice a' n' c') HX ∧ Rdb HX (.slice a' n' c') (ys.drop pre.length)) := by
 intro σ l HJ G S w s0 h0 hHp hy
 refine fn_enter (args := [_, _]) func246 rfl ntmps246 rfl hHp (pn_block (pn_loop (σ := List UInt8 × List UInt8 × Option Addr × Nat × Nat × σ) (fun _ => [(0, .func (.yield l) #[] #[]), (1, .pointer (some ⟨x1, 0, none⟩))]) (fun x => (x1, .cells #[.pointer (some ⟨s, 0, none⟩)] 85 (0, 0)) :: srcM s (.slice x.2.2.1 x.2.2.2.1 x.2.2.2.2.1) (HX ++ HJ x.2.2.2.2.2)) (fun x => ys = x.1 ++ x.2.1 ∧ Rdb HX (.slice x.2.2.1 x.2.2.2.1 x.2.2.2.2.1) x.2.1 ∧ G x.1 x.2.2.2.2.2 ∧ (∀ e ∈ HJ x.2.2.2.2.2, w.heap.size ≤ e.1 ∨ e.1 ∈ keys (((x1, .cells #[.pointer (some ⟨s, 0, none⟩)] 85 (0, 0)) :: srcM s (.slice a n c) HX) ++ HJ s0))) (fun x => x.2.1.length) ([], ys, a, n, c, s0) ⟨rfl, hb, h0, fun e he => .inr (mem_keys.2 ⟨e, by simp [he], rfl⟩)⟩ ⟨rfl, rfl, trivial⟩ (List.Sublist.refl _) ?_))
 rintro ⟨pre, rest, a', n', c', st⟩ ⟨hpre, hb', hG, hX⟩; dsimp only at hpre hb' hG hX ⊢; have hXs : ∀ e ∈ srcM s (.slice a' n' c') HX, e.1 ∈ keys (((x1, .cells #[.pointer (some ⟨s, 0, none⟩)] 85 (0, 0)) :: srcM s (.slice a n c) HX) ++ HJ s0) ∨ w.heap.size ≤ e.1 := (allC (Q := fun k => k ∈ keys (((x1, .cells #[.pointer (some ⟨s, 0, none⟩)] 85 (0, 0)) :: srcM s (.slice a n c) HX) ++ HJ s0) ∨ w.heap.size ≤ k) (.inl (by simp [srcM])) (fun e he => .inl (mem_keys.2 ⟨e, by simp [srcM, he], rfl⟩))); rcases rest with _ | ⟨ch, r⟩
 ·refine sq (sq (pn_plain [4] rfl (ql rfl (RD.load (i := 0) isAgg85 rfl rfl rfl) (qn rfl (qq rfl (RD.fieldAddr (o := 0) runUnderlying178 rfl rfl sizeOf32 rfl) (ql rfl (RD.load (i := 1) isAgg32 rfl rfl rfl) (qq rfl (RD.lenR runUnderlying32 rfl hb') (qq rfl (RD.gtr rfl rfl) (n0 ?_)))))))))
  refine pn_condF rfl (xt ?_)
  (rw [List.append_nil] at hpre; subst hpre; exact pn_done rfl rfl ⟨st, srcM s (.slice a' n' c') HX, rfl, .inl ⟨hG, a', n', c', rfl, by simpa using hb'⟩⟩ (List.sublist_cons_self _ _) (allA (Q := fun k => k ∈ _ ∨ _ ≤ k) hXs (fun e he => (hX e he).symm)))
 ·obtain ⟨bb, off, cap, hsl, hcap, hcell⟩ := hb'.cons; simp only [Value.slice.injEq] at hsl; obtain ⟨rfl, rfl, rfl⟩ := hsl; have hlr : r.length + 1 ≤ 4611686018427387904 := (by have := congrArg List.length hpre; simp only [List.length_append, List.length_cons] at this; omega); have hcut := hb'.cut (l := 1) (by simp); have hpx : (pre ++ [ch]) <+: ys := ⟨r, by rw [hpre, List.append_assoc]; rfl⟩; have hdr : ys.drop (pre ++ [ch]).length = r := (by rw [hpre, show pre ++ ch :: r = (pre ++ [ch]) ++ r from by simp, List.drop_left])
  refine sq (sq (pn_plain [4] rfl (ql rfl (RD.load (i := 0) isAgg85 rfl rfl rfl) (qn rfl (qq rfl (RD.fieldAddr (o := 0) runUnderlying178 rfl rfl sizeOf32 rfl) (ql rfl (RD.load (i := 1) isAgg32 rfl rfl rfl) (qq rfl (RD.lenR runUnderlying32 rfl hb') (qq rfl (RD.as (v := .bool true) (RD.gtr rfl rfl) (by rw [decide_eq_true (by simp only [List.length_cons]; omega)])) (n0 ?_)))))))))
  refine pn_condT rfl (sk (pn_block (sq (pl (ql rfl (RD.load (i := 0) isAgg85 rfl rfl rfl) (qn rfl (qq rfl (RD.fieldAddr (o := 0) runUnderlying178 rfl rfl sizeOf32 rfl) (ql rfl (RD.load (i := 1) isAgg32 rfl rfl rfl) (qq rfl (RD.indexAddrS runUnderlying32 sizeOf5 rfl rfl (by omega) (by omega)) ?_)))))))))
  refine ql rfl (RD.loadC isAgg5 rfl (fun w hw => hcell w (hw.left.sub (.cons _ (.cons _ (List.sublist_append_left _ _)))))) (qa rfl (n0 (sq (pn_drawT [0, 1] [1] [0] [_, _] (HX ++ HJ st) rfl rfl (by kernel_rfl) (by kernel_rfl) rfl rfl (qq rfl (RD.load (i := 0) isAgg85 rfl rfl rfl) (qq rfl (RD.load (i := 0) isAgg85 rfl rfl rfl) (qn rfl (qq rfl (RD.fieldAddr (o := 0) runUnderlying178 rfl rfl sizeOf32 rfl) (ql rfl (RD.load (i := 0) isAgg32 rfl rfl rfl) ?_)))))))))
  refine qq rfl (RD.sliceR (l := 1) (h := r.length + 1) runUnderlying32 sizeOf5 rfl hb' ⟨_, rfl⟩ (by simp) (by omega) (by simp)) (qn rfl (qq rfl (RD.fieldAddr (o := 0) runUnderlying178 rfl rfl sizeOf32 rfl) (TE_store (i := 0) rfl sizeOf32 trivial rfl rfl rfl rfl rfl rfl (.inr (by simp [srcM])) (TE_nil (sq (pn_pickT [1, 0] [_, _] (HX ++ HJ st) rfl rfl rfl (pl (qm rfl (qm rfl ?_)))))))))
  refine TE_yieldT (_ :: _ :: HX) (HJ st) rfl rfl rfl trivial rfl rfl rfl hX (fun W hW => hy pre ch st W hG hpx hW.fr (hW.hp.left.sub (.cons _ (.cons _ (List.sublist_append_right _ _))))) ?_
  rintro v26 H2 ⟨s', rfl, ⟨rfl, hG'⟩ | ⟨rfl, hS'⟩⟩ hX'
  all_goals refine TE_q rfl rfl (RD.not rfl) rfl ?_
  all_goals refine TE_nil0 ?_
  all_goals first
   | (
     refine pn_condT rfl (rt ?_)
     exact pn_done rfl rfl ⟨s', srcM s (subV 1 (r.length + 1) (.slice (some ⟨bb, off, none⟩) (r.length + 1) c')) HX, rfl, .inr ⟨pre ++ [ch], hpx, hS', _, _, _, rfl, by rw [hdr]; exact hcut⟩⟩ (List.sublist_cons_self _ _) (allA (Q := fun k => k ∈ _ ∨ _ ≤ k) (allC (Q := fun k => k ∈ _ ∨ _ ≤ k) (hXs (s, _) List.mem_cons_self) (oC hXs)) (where_ hX')))
   | (
     refine pn_condF rfl (sk ?_)
     (exact pn_again (pre ++ [ch], r, _, _, _, s') ⟨by rw [hpre, List.append_assoc]; rfl, hcut, hG', hX'⟩ (by show r.length < (ch :: r).length; simp) ⟨rfl, rfl, trivial⟩ (List.Sublist.refl _)))
   | (
     first | refine pn_condD rfl (fun hc1 => ?_) (fun hc1 => ?_) | refine pn_condN rfl (fun hc1 => ?_) (fun hc1 => ?_) | refine pn_cond rfl (fun hc1 => ?_) (fun hc1 => ?_)
     ·exact rt (pn_done rfl rfl ⟨s', srcM s (subV 1 (r.length + 1) (.slice (some ⟨bb, off, none⟩) (r.length + 1) c')) HX, rfl, .inr ⟨pre ++ [ch], hpx, hS', _, _, _, rfl, by rw [hdr]; exact hcut⟩⟩ (List.sublist_cons_self _ _) (allA (Q := fun k => k ∈ _ ∨ _ ≤ k) (allC (Q := fun k => k ∈ _ ∨ _ ≤ k) (hXs (s, _) List.mem_cons_self) (oC hXs)) (where_ hX')))
     ·refine sk ?_
      (exact pn_again (pre ++ [ch], r, _, _, _, s') ⟨by rw [hpre, List.append_assoc]; rfl, hcut, hG', hX'⟩ (by show r.length < (ch :: r).length; simp) ⟨rfl, rfl, trivial⟩ (List.Sublist.refl _)))
end Go.Proofs.YtcmnmigcalibdaaGreatDoor
