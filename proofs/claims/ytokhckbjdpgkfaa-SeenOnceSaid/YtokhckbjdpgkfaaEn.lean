/- Rows of the call's own whose entries lead to what came in: the kind of such rows, and how they are read. -/
import Derived.Test.YtokhckbjdpgkfaaPx0
namespace Go.Proofs.Ytokhckbjdpgkfaa.P
open Go.RowKit Go.Proofs.YtokhckbjdpgkfaaW.PrintWords Go.Proofs.YtokhckbjdpgkfaaW.PrintLast
set_option linter.unusedVariables false
set_option linter.unusedSimpArgs false

/-- An entry, read in the world at the call's start, whatever happens since. -/
def kF (w0 : World) : Kd S30 where
  sz := 3
  E := []
  K := fun _ x cs => k30.K w0 x cs
  M := fun _ _ _ x cs => k30.K w0 x cs
  K_len := k30.K_len
  K_one := k30.K_one
  K_below := fun _ h => h
  K_of_M := fun h => h
  M_mono := fun _ h => h
  M_bound := fun h => h
  M_move := fun _ h => h
  M_lower := fun _ h => h
theorem info30 : (Try.prog.info? 30).map (fun i => (i.zero, i.size, i.bytes)) = some (some (.agg #[(.int .i64 0), (.int .u64 0), (.slice none 0 0)]), 3, 40) := by kernel_rfl
/-- Such a row is read as any row of entries. -/
theorem kF_reads {w W : World} {base n c : Nat} {ok : Nat → Prop} {A : Option Addr} {es : List S30} (h : (kF w).R 30 W base ok (.slice A n c) es) (hb : Below w.heap.size w W) : Kd.C k30 W A es.length es :=
  ReadsRow.imp_ (Kd.R_reads' h).2.2 (Below.refl _ _) (fun _ _ hk => k30.K_below hb hk)

end Go.Proofs.Ytokhckbjdpgkfaa.P
