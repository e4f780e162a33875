/- Epoch: what the laws' arguments stand for. -/
import Derived.Test.YtlmgobbidknpgaaE
namespace Go.Proofs.Ytlmgobbidknpgaa
open Go Go.Sym
def stoOf (s : Int × ByteArray × Int × (Value × List (Value × List Int)) × Value × List Int) : Sto := ⟨s.1, s.2.1, s.2.2.1, s.2.2.2.1.2.map (·.2), s.2.2.2.2.2⟩
theorem rows_of {F : List Fact} {v : Value} {l : List (Value × List Int)} (h1 : Ent1 F (Fact.arr v 1 encH l)) (h2 : Ent1 F (Fact.all l fun p => [Fact.arr p.1 1 encB p.2, Fact.all p.2 fun _ => []])) : Ent1 F (Fact.nest v 1 encV (l.map (·.2)) relB) :=
  Ent1.nestOf (enc' := encV) (rel := relB) (fun p => p.1) (fun p => p.2) (fun _ => rfl) (fun p => Ents.cons (Ent1.mem (by repeat (first | exact List.mem_cons_self .. | refine List.mem_cons_of_mem _ ?_))) (Ents.nil _)) h1 h2
end Go.Proofs.Ytlmgobbidknpgaa
