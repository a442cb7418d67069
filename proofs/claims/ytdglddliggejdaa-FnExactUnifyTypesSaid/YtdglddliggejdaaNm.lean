/- A part of the proof of a statement of this seat: see the text that holds the theorem. No condition. -/
import Derived.Test.YtdglddliggejdaaSimX
import Derived.Test.YtdglddliggejdaaProg
set_option linter.unusedVariables false
set_option linter.unusedSimpArgs false
set_option linter.all false
namespace Go.Sim
open Go Go.RowKit
noncomputable abbrev pg:Program:=Go.Proofs.Try.prog
abbrev Zez:FuncId:=5
abbrev Zfn:FuncId:=20
abbrev Zen:FuncId:=21
abbrev Zeo:FuncId:=22
abbrev Zew:FuncId:=23
abbrev Zdo:FuncId:=24
abbrev Zev:FuncId:=32
abbrev Zgf:FuncId:=52
abbrev Zhf:FuncId:=53
abbrev Zhz:FuncId:=54
abbrev Zgv:FuncId:=55
abbrev Zhb:FuncId:=56
abbrev Zfz:FuncId:=57
abbrev Zcu:FuncId:=58
abbrev Zet:FuncId:=59
abbrev Zkz:FuncId:=60
abbrev Zgr:FuncId:=61
abbrev Zfx:FuncId:=62
abbrev Zdi:FuncId:=63
abbrev Zhp:FuncId:=78
abbrev Zch:FuncId:=96
abbrev Zbh:FuncId:=97
abbrev Zge:FuncId:=98
abbrev Zff:FuncId:=99
abbrev Zgj:FuncId:=100
abbrev Zee:FuncId:=101
abbrev Zek:FuncId:=102
abbrev Zbx:FuncId:=103
abbrev Zdp:FuncId:=104
abbrev Zfm:FuncId:=105
abbrev Zce:FuncId:=106
abbrev Zdy:FuncId:=113
abbrev Zfc:FuncId:=138
abbrev Zcp:FuncId:=139
abbrev Zfu:FuncId:=140
abbrev Zel:FuncId:=141
abbrev Zbn:FuncId:=142
abbrev Zgw:FuncId:=143
abbrev Zey:FuncId:=144
abbrev Zbz:FuncId:=147
abbrev Zfs:FuncId:=150
abbrev Zsp:TypeId:=5
abbrev Zmj:TypeId:=9
abbrev Zfw:TypeId:=41
abbrev Zsu:TypeId:=66
abbrev Znz:TypeId:=69
abbrev Zfj:TypeId:=75
abbrev Zab:TypeId:=77
abbrev Zbp:TypeId:=85
abbrev Zdq:TypeId:=89
abbrev Zap:TypeId:=96
abbrev Zrv:TypeId:=140
abbrev Zbm:TypeId:=149
abbrev Zbu:TypeId:=152
abbrev Zgs:TypeId:=160
abbrev Zav:TypeId:=162
end Go.Sim
