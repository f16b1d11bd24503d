/- An index: it tells what the document says (tenterlaw13.tells). -/
import Derived.Test.YtblplapkdmhikaaDxah
import Derived.Test.YtblplapkdmhikaaDxai
import Derived.Test.YtblplapkdmhikaaDxaq
import Derived.Test.YtblplapkdmhikaaDxbb
import Derived.Test.YtblplapkdmhikaaDxbd
import Derived.Test.YtblplapkdmhikaaDxbf
import Derived.Test.YtblplapkdmhikaaDxbp
import Derived.Test.YtblplapkdmhikaaDxbt
namespace Go.Proofs.Ytblplapkdmhikaa
set_option linter.unusedVariables false
set_option linter.unusedSimpArgs false
section
open Go.RowKit
theorem ZcT (q:List HTx):∀(l:List HTx) (acc:List Ver),(∀t∈l,t.ops.length≤4095)→(ZaO q acc l).length≤acc.length+4095*l.length
 |[],acc,_=>by simp[ZaO]
 |t::l,acc,h=>by
  unfold ZaO;refine Nat.le_trans (ZcT q l _ (fun u hu=>h u (List.mem_cons_of_mem _ hu))) ?_;have h1:=ZcS q (Zy t) acc;have h2:(Zy t).length≤t.ops.length:=Zaj t.id t.ops _;have h3:=h t List.mem_cons_self;rw[List.length_cons];omega
end
end Go.Proofs.Ytblplapkdmhikaa
