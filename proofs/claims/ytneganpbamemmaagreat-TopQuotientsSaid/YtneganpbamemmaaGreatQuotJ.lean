/- The law of quotients: the plain law. -/
import Derived.Test.YtneganpbamemmaaGreatTopQ
import Derived.Test.YtneganpbamemmaaGreatBegin
set_option linter.unusedVariables false
set_option linter.unusedSimpArgs false
set_option linter.unusedSectionVars false
namespace Sq
open Go Go.Proofs.YtneganpbamemmaaGreat
theorem quot_plain (x : Spot) (n d : Int) (hn0 : 0 ≤ n) (hn1 : n < 65536) (h1 : 1 ≤ d) (h2 : d < 256) : QuotPlain x n d := by
  have hg := quotG_ok n d ⟨hn0, hn1⟩ ⟨by omega, h2⟩
  have ho := x.org_cases
  have hg2 : ((quotG n d).at_ x).Ok := { hg with pc := ⟨Int.natCast_nonneg _, by show (x.org : Int) < 65536; omega⟩, sp := ⟨by show (0 : Int) ≤ 65280; omega, by show (65280 : Int) < 65536; omega⟩ }
  have hat : At (quotS x n d) (((quotG n d).at_ x).ar (x.board quotCode).mem) := start_at x quotCode (by decide) _ hg2 rfl rfl rfl
  obtain ⟨A, R, m, hh, hl, hhl, ha, hb, hd⟩ := quot_all (o := x.org) ho (M := (x.board quotCode).mem) (fun k v h => board_code x quotCode k v h) (N := n) h1 h2 (A := ((quotG n d).at_ x).ar (x.board quotCode).mem) rfl rfl rfl
    (show 0 ≤ n / 256 ∧ n / 256 < 256 by omega) (show 0 ≤ n % 256 ∧ n % 256 < 256 by omega) (show n / 256 * 256 + n % 256 = n by omega)
  obtain ⟨hf, hd'⟩ := (R _ hat).halts m 20000 (by omega)
  exact ⟨hat.ok, hf, hd'.c.halt, by rw [hd'.c.h]; exact hh, by rw [hd'.c.l]; exact hl, by rw [hd'.c.h, hd'.c.l]; exact hhl, by rw [hd'.c.a]; exact ha, by rw [hd'.c.b]; exact hb, by rw [hd'.c.d]; exact hd⟩
end Sq
namespace Go.Proofs.YtneganpbamemmaaGreat
open Go Go.RowKit Sq
/-- The law of quotients returns true, whatever its arguments. -/
theorem topQ_true (w : World) (x : Spot) (hx : -9223372036854775808 ≤ x.phase ∧ x.phase ≤ 9223372036854775807) (n d : Int) (hn0 : 0 ≤ n) (hn1 : n < 65536) (hd0 : 0 ≤ d) (hd1 : d < 256) :
    Calls Tryz.prog 3 #[.agg x.cells, .int .u16 n, .int .u8 d] w fun e W => e = .returned (.bool true) ∧ Ext w W :=
  topQ_any w x hx n d hn0 hn1 hd0 hd1 (fun d' h1 h2 => quot_plain x n d' hn0 hn1 h1 h2)
end Go.Proofs.YtneganpbamemmaaGreat
