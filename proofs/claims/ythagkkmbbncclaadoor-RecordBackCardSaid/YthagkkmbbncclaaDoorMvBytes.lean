import Derived.Test.YthagkkmbbncclaaDoorMvScope
import Derived.Laws.IdiomStrings
namespace Go.Mv
open Go

theorem bytesRow_eq (s : ByteArray) (cap : Nat) : bytesRow s cap = (bcells s.data.toList ++ List.replicate (cap - s.size) (Value.int .u8 0)).toArray := by
  apply Array.toList_inj.1
  simp [bytesRow, bcells]
  exact fun _ _ => rfl

section te
variable {P : Program} {rd : Option Nat} {ops : Array Oper} {p : Pst} {q : List Nat} {C : Ctx} {L M : Mem} {k : Nat} {tr : Tr} {E : Env}
variable {d : Nat} {ty : TypeId} {ps : String} {af : Array Edge} {g : Option (Nat × Bool)}

/-- []byte(s): a new block. -/
theorem TE_strBytes {src dst' el : TypeId} {x : Operand} {s : ByteArray} (ho : ops[k]? = some ⟨some d, .convert src dst' x, ty, ps, af, g⟩) (hl : ld ops q k = true) (hg : GOK ops E g) (hd : Nat.blt d C.N = true)
    (hS : P.underlying src = some .string) (hD : P.underlying dst' = some (.slice el)) (he : P.underlying el = some (.int .u8)) (hx : evalE E x = some (.string s))
    (h : ∀ b cap tl fz, C.w0.heap.size ≤ b → TE P rd ops p q C L tr ((d, .slice (some ⟨b, 0, none⟩) s.data.toList.length cap) :: E) ((b, .cells (bcells s.data.toList ++ tl).toArray el fz) :: M)) : TE P rd ops p q C L (.op k tr) E M :=
  TE_loud ho hl hg rfl fun a w hr hs => by
    have hrun : (execOp a.eval ⟨some d, .convert src dst' x, ty, ps, af, g⟩).run P w = .ok (.value (.slice (some ⟨w.heap.size, 0, none⟩) s.size (grownCap w s.size 0 el)))
        (w.drew.alloc (.cells (bytesRow s (grownCap w s.size 0 el)) el ((bytesRow s (grownCap w s.size 0 el)).size, (bytesRow s (grownCap w s.size 0 el)).size + 1))) := by
      simp [execOp, hr.eval hx, run_bytes_of_string w src dst' el s hS hD he]
    rw [hrun, bytesRow_eq]
    have hs' : St C.w0 C.X (M ++ L) w.drew := ⟨hs.fr.drew, hs.hp.drew⟩
    have hn := hs'.new (.cells (bcells s.data.toList ++ List.replicate (grownCap w s.size 0 el - s.size) (Value.int .u8 0)).toArray el ((bcells s.data.toList ++ List.replicate (grownCap w s.size 0 el - s.size) (Value.int .u8 0)).toArray.size, (bcells s.data.toList ++ List.replicate (grownCap w s.size 0 el - s.size) (Value.int .u8 0)).toArray.size + 1))
    have hsz : s.data.toList.length = s.size := by simp
    rw [← hsz] at hn ⊢
    exact ⟨hn.hp.sub (List.sublist_append_right (_ :: M) L), h w.heap.size _ _ _ hs.fr.size _ _ (hr.put (by simpa using hd) _) hn⟩

/-- string(b). -/
theorem RD.str_of_bytes {src dst' el : TypeId} {x : Operand} {xv : Value} {ys : List UInt8} (hS : P.underlying src = some (.slice el)) (hD : P.underlying dst' = some .string) (he : P.underlying el = some (.int .u8)) (hx : evalE E x = some xv) (hb : BytesIn L xv ys) :
    RD P (.convert src dst' x) ty E L (.string ⟨ys.toArray⟩) := fun ρ w _ _ _ _ hρ hL => by
  obtain ⟨a, c, rfl, hr⟩ := hb
  simp only [execOp, hρ _ _ hx]
  cases a with
  | none =>
    have hy : ys = [] := Classical.byContradiction fun h => by obtain ⟨_, h', _⟩ := hr h; cases h'
    subst hy
    simp only [Sem.run_bind, run_convert_bytes_nil w src el hS he _ c dst' hD, Result.andThen_ok, Sem.run_pure]
    rfl
  | some ad =>
    have hc : ∀ j (hj : j < ys.length), w.cell? (ad.add j) = some (.int .u8 (ys[j].toNat : Int)) := fun j hj => by
      obtain ⟨ad', h', hr'⟩ := hr (by intro h; subst h; simp at hj)
      cases h'
      exact hr' w hL j _ (by simp [bcells, bcell, hj])
    simp only [Sem.run_bind, run_convert_bytes_back w src dst' el ad c ys hS he hD hc, Result.andThen_ok, Sem.run_pure]
end te

section code
variable {P : Program} {rd : Option Nat} {p : Pst} {C : Ctx} {E : Env} {H : Mem}
/-- What a piece of code leaves is told by a state. -/
theorem pn_cut {σ : Type} {c : Code} (EE : σ → Env) (HH : σ → Mem) (I : σ → Prop) (h1 : PN C (WP P rd c { p with n := fun a w => ∃ s, I s ∧ Rep C.N C.ds (EE s) a ∧ St C.w0 C.X (HH s) w }) E H) (h2 : ∀ s, I s → PN C p.n (EE s) (HH s)) : PN C (WP P rd c p) E H :=
  fun a w hr hs => wpIn_mono (h1 a w hr hs) (fun e a w q => by
    cases e with
    | normal => obtain ⟨s, hI, hr, hs⟩ := q; exact h2 s hI a w hr hs
    | ret => exact q
    | exit i => exact q
    | goto l => exact q
    | panic c => exact q
    | outgrown => exact q)
theorem pn_give {σ : Type} {EE : σ → Env} {HH : σ → Mem} {I : σ → Prop} (s : σ) (hI : I s) (hE : Keeps E (EE s)) (hH : ∀ w, Hp H w → Hp (HH s) w) : PN C (fun a w => ∃ s, I s ∧ Rep C.N C.ds (EE s) a ∧ St C.w0 C.X (HH s) w) E H :=
  fun _ w hr hs => ⟨s, hI, hr.keeps hE, hs.fr, hH w hs.hp⟩
end code

/-- A tip's bytes. -/
def tipL (t : Nat → Int) : List UInt8 := (List.range 32).map fun i => UInt8.ofNat (t i).toNat
theorem tipL_len (t : Nat → Int) : (tipL t).length = 32 := by simp [tipL]
theorem rec_tip_at (r : Rec) {i : Nat} (h : i < 32) : (recV r).cells[20 + i]? = some (.int .u8 (r.tip i)) := by
  rcases lt32 h with h | ⟨j, hj, rfl⟩
  · rcases lt16 h with rfl | rfl | rfl | rfl | rfl | rfl | rfl | rfl | rfl | rfl | rfl | rfl | rfl | rfl | rfl | rfl <;> rfl
  · rcases lt16 hj with rfl | rfl | rfl | rfl | rfl | rfl | rfl | rfl | rfl | rfl | rfl | rfl | rfl | rfl | rfl | rfl <;> rfl
theorem tip_bytes {H : Mem} {i b c : Nat} {r : Rec} {t : TypeId} {fz : Nat × Nat} (hr : IdOk r.tip) (hi : H[i]? = some (b, .cells (recV r).cells t fz)) : BytesIn H (.slice (some ⟨b, 20, none⟩) 32 c) (tipL r.tip) :=
  ⟨some ⟨b, 20, none⟩, c, by rw [tipL_len], fun _ => ⟨_, rfl, fun w hw j u hj => by
    have hj' : j < 32 := by
      have := (List.getElem?_eq_some_iff.1 hj).1
      simpa [tipL_len] using this
    have hadd : (⟨b, 20, none⟩ : Addr).add j = ⟨b, 20 + j, none⟩ := by
      unfold Addr.add; split
      · rename_i h; simp
      · rfl
    rw [hadd, cell_of hw (off := 20 + j) hi, rec_tip_at r hj', ← hj]
    have := hr j
    simp [bcells, bcell, tipL, hj']
    omega⟩⟩
end Go.Mv
