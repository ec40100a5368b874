import Derived.Test.YtpndenfhglaikaaPrt
set_option linter.all false
namespace Sg
open Go
section
variable {B : Base} {N : Nat} {L : List Nat} {st : St}
theorem Imp.reown {p q b b' E esz n : Nat} {el : Nat → Nat → DV} {E0 : TypeId} {cs : List CV} {nn : Bool} {len : Nat} (hp : get st.heap p = some (some (.cells E0 cs))) (hq : cs[q]? = some (.own b nn len)) (hb : get st.heap b = some (some (.arr E esz n el))) (hb' : get st.heap b' = none) :
  Imp B N L st ⟨st.slots, (p, some (.cells E0 (cs.set q (.own b' nn len)))) :: (b', some (.arr E esz n el)) :: (b, none) :: st.heap⟩ := by
 intro a w hc
 obtain ⟨⟨ρ, F, hfr, ⟨ft, hi⟩, hs, dn⟩, hid, sz⟩ := hc
 have hρ := hi.fresh b' hb'
 have hpb : p ≠ b := fun e => by rw [e, hb] at hp; cases hp
 have hpb' : p ≠ b' := fun e => by rw [e, hb'] at hp; cases hp
 have hbb' : b ≠ b' := fun e => by rw [e, hb'] at hb; cases hb
 obtain ⟨pl, hpl⟩ : ∃ pl, ρ b = some pl := by
  rcases hi.obj b _ hb with ⟨h, _⟩ | ⟨k, base, cap, h, _⟩ <;> exact ⟨_, h⟩
 have hu : ∀ x, hpOf ((p, some (.cells E0 (cs.set q (.own b' nn len)))) :: (b', some (.arr E esz n el)) :: (b, none) :: st.heap) x = if p = x then some (some (.cells E0 (cs.set q (.own b' nn len)))) else if b' = x then some (some (.arr E esz n el)) else if b = x then some none else hpOf st.heap x := fun x => by simp only [hpOf]; rw [get_cons, get_cons, get_cons]
 have g : Gr ρ F w (updR ρ b' pl) F w := ⟨updR_mono hρ, fun _ h => h, fun _ _ => rfl⟩
 have hlive : ∀ x ox, (x = p ∨ x = b' ∨ x = b) → hpOf ((p, some (.cells E0 (cs.set q (.own b' nn len)))) :: (b', some (.arr E esz n el)) :: (b, none) :: st.heap) x = some (some ox) → (x = p ∧ ox = .cells E0 (cs.set q (.own b' nn len))) ∨ (x = b' ∧ ox = .arr E esz n el) := fun x ox hx hh => by
  rw [hu] at hh
  rcases hx with rfl | rfl | rfl
  ·rw [if_pos rfl] at hh; cases hh; exact .inl ⟨rfl, rfl⟩
  ·rw [if_neg hpb', if_pos rfl] at hh; cases hh; exact .inr ⟨rfl, rfl⟩
  ·rw [if_neg hpb, if_neg (Ne.symm hbb'), if_pos rfl] at hh; cases hh
 refine ⟨⟨updR ρ b' pl, F, { hfr with rho := fun x p' e => updR_mono hρ x p' (hfr.rho x p' e) }, ⟨setF ft b' (ft b), ?_⟩, fun t' tv ht' => ?_, dn⟩, hid, sz⟩
 ·refine hi.step g hfr (Nat.le_refl _) (fun x => x = p ∨ x = b' ∨ x = b) (fun x ox hx hh => ?_) (fun x ox hx hh => ?_) (fun x ox k hx hh hf => ?_) (fun x y ox oy k hx hy h1 h2 f1 f2 => ?_) (fun k hk => .inl hk) fun x hh => ?_
  ·rw [hu, if_neg (fun e => hx (.inl e.symm)), if_neg (fun e => hx (.inr (.inl e.symm))), if_neg (fun e => hx (.inr (.inr e.symm)))] at hh
   exact ⟨hh, fun _ _ => rfl, fun k => by rw [setF_ne (fun e => hx (.inr (.inl e)))]⟩
  ·rcases hlive x ox hx hh with ⟨rfl, rfl⟩ | ⟨rfl, rfl⟩
   ·rw [setF_ne hpb']
    obtain ⟨k, cap, vs, x1, x0, x2, x3⟩ := hi.obj x _ hp
    refine ⟨k, cap, vs, updR_mono hρ _ _ x1, x0, x2, RepL.of_get (by rw [x3.length, List.length_set]) fun j c hj => ?_⟩
    rw [List.getElem?_set] at hj
    split at hj
    ·rename_i e; subst e
     split at hj
     ·cases hj
      obtain ⟨u, hu', hr⟩ := x3.get hq
      refine ⟨u, hu', ?_⟩
      rcases hr with ⟨k, base, cap, e1, e2⟩ | ⟨e0, e1, e2, e3⟩
      ·rw [hpl] at e1; cases e1
       exact .inl ⟨k, base, cap, updR_same _ _, e2⟩
      ·rw [hpl] at e1; cases e1
       exact .inr ⟨e0, updR_same _ _, e2, e3⟩
     ·cases hj
    ·obtain ⟨u, hu', hr⟩ := x3.get hj
     exact ⟨u, hu', hr.gr g⟩
   ·rw [setF_same]
    rcases hi.obj b _ hb with ⟨h, h0⟩ | ⟨k, base, cap, h, h1, h2⟩
    ·rw [hpl] at h; cases h; exact .inl ⟨updR_same _ _, h0⟩
    ·rw [hpl] at h; cases h; exact .inr ⟨k, base, cap, updR_same _ _, h1, h2⟩
  ·rcases hlive x ox hx hh with ⟨rfl, rfl⟩ | ⟨rfl, rfl⟩
   ·rw [setF_ne hpb'] at hf
    exact .inl ⟨x, _, .inl rfl, hp, hf⟩
   ·rw [setF_same] at hf
    exact .inl ⟨b, _, .inr (.inr rfl), hb, hf⟩
  ·rcases hlive x ox hx h1 with ⟨rfl, rfl⟩ | ⟨rfl, rfl⟩ <;> rcases hlive y oy hy h2 with ⟨rfl, rfl⟩ | ⟨rfl, rfl⟩
   ·rfl
   ·rw [setF_ne hpb'] at f1; rw [setF_same] at f2
    exact absurd (hi.dis _ _ _ _ k hp hb f1 f2) hpb
   ·rw [setF_same] at f1; rw [setF_ne hpb'] at f2
    exact absurd (hi.dis _ _ _ _ k hb hp f1 f2).symm hpb
   ·rfl
  ·rw [hu] at hh
   split at hh
   ·cases hh
   ·split at hh
    ·cases hh
    ·split at hh
     ·cases hh
     ·rename_i e1 e2 e3
      have := hi.fresh x hh
      simp only [updR]; rw [if_neg (Ne.symm e2)]; exact this
 ·obtain ⟨v, hv, hr⟩ := hs t' tv ht'
  exact ⟨v, hv, hr.gr g⟩
end
theorem OLe_arr {E esz n : Nat} {f g : Nat → Nat → DV} (h : ∀ i, i < n → ∀ j, j < esz → DLe (f i j) (g i j)) : OLe (some (.arr E esz n f)) (some (.arr E esz n g)) := by
 rintro ρ F w S b (hr | ⟨k, base, cap, x1, x0, vs, x2, x3, x4, x5, x6⟩)
 ·exact .inl hr
 ·exact .inr ⟨k, base, cap, x1, x0, vs, x2, x3, x4, x5, fun i hi j hj => by
   obtain ⟨u, hu, hr⟩ := x6 i hi j hj
   exact ⟨u, hu, h i hi j hj _ _ _ hr⟩⟩
theorem repLe {α : Type} [Inhabited α] (c : α → Nat → DV) (n esz : Nat) (z : List DV) (x : α) (h : ∀ j, j < esz → DLe (z.getD j .nilp) (c x j)) : ∀ i, i < (List.replicate n x).length → ∀ j, j < esz → DLe ((fun (_ : Nat) j => z.getD j .nilp) i j) (elOf c (List.replicate n x) i j) := by
 intro i hi j hj
 show DLe (z.getD j .nilp) _
 unfold elOf
 rw [at'_replicate (by simpa using hi)]
 exact h j hj
end Sg
namespace Sg
open Go
theorem OLe_rows {E esz n m : Nat} {f : Nat → Nat → EV} {ov : Option (Nat × Nat × CV)} (h : n = m) : OLe (some (.rows E esz n f ov)) (some (.rows E esz m f ov)) := h ▸ .refl _
end Sg
namespace Sg
open Go
theorem stLe {α : Type} [Inhabited α] (c : α → Nat → DV) (l : List α) (n esz i off : Nat) (ds : List DV) (x : α) (hn : n = l.length) (h : ∀ j, j < esz → DLe (if off ≤ j ∧ j < off + ds.length then ds.getD (j - off) .nilp else c (at' l i) j) (c x j)) :
  ∀ i', i' < n → ∀ j, j < esz → DLe (stEls (elOf c l) i off ds i' j) (elOf c (l.set i x) i' j) := by
 intro i' hi' j hj
 unfold stEls elOf
 by_cases e : i' = i
 ·subst e
  rw [at'_set_eq (by omega)]
  have := h j hj
  by_cases e2 : off ≤ j ∧ j < off + ds.length
  ·rw [if_pos e2] at this; rw [if_pos ⟨rfl, e2⟩]; exact this
  ·rw [if_neg e2] at this; rw [if_neg (fun hh => e2 hh.2)]; exact this
 ·rw [at'_set_ne (Ne.symm e), if_neg (fun hh => e hh.1)]
  exact .refl _
theorem DLe.slN {nn nn' : Option Bool} {esz len m : Nat} {f g : Nat → Nat → DV} (hl : len = m) (hn : nn' = none ∨ nn' = nn) (h : ∀ i, i < len → ∀ j, j < esz → DLe (f i j) (g i j)) : DLe (.sl nn esz len f) (.sl nn' esz m g) := hl ▸ DLe.sl hn h
theorem toNat_lt {i : Int} {n : Nat} (h : (0 : Int) ≤ i ∧ i < (n : Int)) : i.toNat < n := by omega
end Sg
