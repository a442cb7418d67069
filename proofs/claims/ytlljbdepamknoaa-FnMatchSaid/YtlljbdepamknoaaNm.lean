/- A part of the proof of a statement of this seat: see the text that holds the theorem. No condition. -/
import Derived.Test.YtlljbdepamknoaaSimX
import Derived.Test.YtlljbdepamknoaaProg
set_option linter.unusedVariables false
set_option linter.unusedSimpArgs false
set_option linter.all false
namespace Go.Sim
open Go Go.RowKit
noncomputable abbrev pg : Program := Go.Proofs.Try.prog
abbrev Zji : FuncId := 5
abbrev Zea : FuncId := 19
abbrev Zeh : FuncId := 20
abbrev Zfm : FuncId := 21
abbrev Zca : FuncId := 22
abbrev Zcd : FuncId := 23
abbrev Zeb : FuncId := 24
abbrev Zcz : FuncId := 25
abbrev Zhl : FuncId := 26
abbrev Zft : FuncId := 27
abbrev Zig : FuncId := 52
abbrev Zgv : FuncId := 53
abbrev Zeu : FuncId := 54
abbrev Zdw : FuncId := 55
abbrev Zfz : FuncId := 56
abbrev Zdx : FuncId := 57
abbrev Zfd : FuncId := 58
abbrev Zhn : FuncId := 59
abbrev Zcx : FuncId := 60
abbrev Zgp : FuncId := 61
abbrev Zgu : FuncId := 62
abbrev Zjk : FuncId := 63
abbrev Zes : FuncId := 64
abbrev Zgi : FuncId := 81
abbrev Zay : FuncId := 82
abbrev Zfs : FuncId := 83
abbrev Zer : FuncId := 84
abbrev Zei : FuncId := 85
abbrev Zez : FuncId := 86
abbrev Zbu : FuncId := 87
abbrev Zbw : FuncId := 88
abbrev Zfe : FuncId := 89
abbrev Zde : FuncId := 90
abbrev Zdv : FuncId := 91
abbrev Zdm : FuncId := 92
abbrev Zcp : FuncId := 104
abbrev Zbr : FuncId := 105
abbrev Zgq : FuncId := 106
abbrev Zgm : FuncId := 107
abbrev Zem : FuncId := 108
abbrev Zbp : FuncId := 111
abbrev Zcm : FuncId := 112
abbrev Zfg : FuncId := 113
abbrev Zfc : FuncId := 114
abbrev Zwh : TypeId := 5
abbrev Zbg : TypeId := 9
abbrev Zru : TypeId := 40
abbrev Znb : TypeId := 43
abbrev Zfn : TypeId := 55
abbrev Zag : TypeId := 63
abbrev Zcn : TypeId := 90
abbrev Zdf : TypeId := 92
abbrev Zen : TypeId := 95
abbrev Zab : TypeId := 97
abbrev Zbh : TypeId := 102
abbrev Zkn : TypeId := 107
abbrev Zqk : TypeId := 115
abbrev Zgn : TypeId := 129
abbrev Zin : TypeId := 132
abbrev Zcb : TypeId := 134
abbrev Zbl : TypeId := 142
end Go.Sim
