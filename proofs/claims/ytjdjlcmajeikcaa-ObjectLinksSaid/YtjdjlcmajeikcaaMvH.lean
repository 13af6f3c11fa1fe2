import Derived.Test.YtjdjlcmajeikcaaMvG
import Derived.Laws.Externs
import Derived.Lib.Bytealg
namespace Go.Mv
open Go Go.Proofs
theorem u8_lt {a b : Int} (ha : 0 ≤ a ∧ a ≤ 255) (hb : 0 ≤ b ∧ b ≤ 255) : a.toNat.toUInt8 < b.toNat.toUInt8 ↔ a < b := by
  rw [UInt8.lt_iff_toNat_lt]
  simp only [Nat.toUInt8_eq, UInt8.toNat_ofNat']
  rw [Nat.mod_eq_of_lt (by omega), Nat.mod_eq_of_lt (by omega)]
  omega
def byI (f : Nat → Int) (i n : Nat) : List UInt8 := (List.range' i n).map fun j => (f j).toNat.toUInt8
theorem cmpB {f g : Nat → Int} (hf : IdOk f) (hg : IdOk g) : ∀ n i, Lib.compareBytes (byI f i n) (byI g i n) = cmpF f g n i
  | 0, i => rfl
  | n + 1, i => by
    have h := cmpB hf hg n (i + 1)
    unfold byI at h ⊢
    simp only [List.range'_succ, List.map_cons, Lib.compareBytes, cmpF, u8_lt (hf i) (hg i), u8_lt (hg i) (hf i), h]
theorem run_loadB {P : Program} {b off : Nat} (f : Nat → Int) (w : World) : ∀ (n i : Nat) (acc : ByteArray), (∀ j, i ≤ j → j < i + n → w.cell? ⟨b, off + j, none⟩ = some (.int .u8 (f j))) →
    ∃ r : ByteArray, (Extern.Bytes.loadBytes ⟨b, off + i, none⟩ n acc).run P w = .ok r w ∧ r.data.toList = acc.data.toList ++ byI f i n
  | 0, i, acc, _ => ⟨acc, rfl, by simp [byI]⟩
  | n + 1, i, acc, h => by
    obtain ⟨r, h1, h2⟩ := run_loadB f w n (i + 1) (acc.push (f i).toNat.toUInt8) (fun j h1 h2 => h j (by omega) (by omega))
    refine ⟨r, ?_, ?_⟩
    · have hc := h i (Nat.le_refl _) (by omega)
      have h1 : Sem.run P (Extern.Bytes.loadBytes ⟨b, off + i + 1, none⟩ n (acc.push (f i).toNat.toUInt8)) w = .ok r w := h1
      simp [Extern.Bytes.loadBytes, hc, add_none, h1]
    · rw [h2]; simp [byI, List.range'_succ, ByteArray.push]
section rd
variable {P : Program} {ty : TypeId} {E : Env} {L : Mem} {v u : Value} {x y z : Operand} {T U : TypeId}
/-- A call of a function for which the model stands in. -/
theorem RD.call_extern {f : Operand} {xs : Array Operand} {ats : Array TypeId} {fid : FuncId} {vs : List Value} (hf : evalE E f = some (.func (.func fid) #[] #[])) (ha : evalL E xs.toList = some vs) (hr : ∀ w, Hp L w → (callFunc fid vs.toArray).run P w = .ok (.value v) w) : RD P (.call ⟨.value f, xs, ats⟩) ty E L v := fun ρ w _ _ _ _ hρ hL => by
  have e : xs.map ρ = vs.toArray := by apply Array.toList_inj.1; simpa using evalL_map hρ _ _ ha
  have h := hr w hL
  simp only [execOp, resolve, hρ _ _ hf, e, Deferred.ofValue]
  simp only [Sem.run_bind, Sem.run_pure, Result.andThen_ok, invoke]
  simpa using h
end rd
/-- bytealg.Compare of two ids' bytes. -/
theorem run_cmpIds {P : Program} {fid : FuncId} {fn : Func} (hf : P.funcs[fid]? = some fn) (hname : (fn.name == "runtime.NumGoroutine") = false) (hb : fn.body.isNone = true) (hn : Extern.findNext fn = none) (he : Extern.find fn = some Extern.BytealgCompare.compare)
    {f g : Nat → Int} (hfo : IdOk f) (hgo : IdOk g) {b1 o1 c1 b2 o2 c2 : Nat} {w : World} (h1 : ∀ j, j < 32 → w.cell? ⟨b1, o1 + j, none⟩ = some (.int .u8 (f j))) (h2 : ∀ j, j < 32 → w.cell? ⟨b2, o2 + j, none⟩ = some (.int .u8 (g j))) :
    (callFunc fid #[.slice (some ⟨b1, o1, none⟩) 32 c1, .slice (some ⟨b2, o2, none⟩) 32 c2]).run P w = .ok (.value (.int .i64 (idCmp f g))) w := by
  obtain ⟨r1, e1, d1⟩ := run_loadB (P := P) f w 32 0 .empty (fun j _ h => h1 j (by omega))
  obtain ⟨r2, e2, d2⟩ := run_loadB (P := P) g w 32 0 .empty (fun j _ h => h2 j (by omega))
  have e1 : Sem.run P (Extern.Bytes.loadBytes ⟨b1, o1, none⟩ 32 .empty) w = .ok r1 w := e1
  have e2 : Sem.run P (Extern.Bytes.loadBytes ⟨b2, o2, none⟩ 32 .empty) w = .ok r2 w := e2
  have hc : Extern.BytealgCompare.cmp r1 r2 = idCmp f g := by
    rw [Lib.cmp_eq, d1, d2]; exact cmpB hfo hgo 32 0
  have hcmp : (Extern.BytealgCompare.compare #[.slice (some ⟨b1, o1, none⟩) 32 c1, .slice (some ⟨b2, o2, none⟩) 32 c2]).run P w = .ok (.int .i64 (idCmp f g)) w := by
    change Sem.run P (do pure (goInt (Extern.BytealgCompare.cmp (← Extern.Bytes.bytesOf (.slice (some ⟨b1, o1, none⟩) 32 c1)) (← Extern.Bytes.bytesOf (.slice (some ⟨b2, o2, none⟩) 32 c2))))) w = _
    simp only [Extern.Bytes.bytesOf, Sem.run_bind, e1, e2, Sem.run_pure, Result.andThen]
    rw [hc]; rfl
  rw [run_callFunc_extern hf hname hb hn he, hcmp]
  rfl
theorem id_slice {H : Mem} {w : World} {i b : Nat} {t : Nat → Int} {u : TypeId} (hw : Hp H w) (hi : H[i]? = some (b, .cells (idV t).cells u (0, 0))) : ∀ j, j < 32 → w.cell? ⟨b, 0 + j, none⟩ = some (.int .u8 (t j)) := fun j hj => by
  rw [cell_of hw hi, Nat.zero_add]; exact id_at t hj
end Go.Mv
